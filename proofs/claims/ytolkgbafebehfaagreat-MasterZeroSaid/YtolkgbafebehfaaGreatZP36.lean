/- Part 37 of what the proof needs. -/
import Derived.Test.YtolkgbafebehfaaGreatZP35
set_option linter.unusedSimpArgs false
set_option linter.unusedVariables false
set_option maxHeartbeats 32000000
set_option maxRecDepth 100000
namespace Go.Proofs.YtolkgbafebehfaaGreat
open Go.RowKit
set_option maxRecDepth 100000
namespace dM
open aP Vn Mst lJ IM nG
def fB(l:List aN):List ByteArray:=(l.filter fun x=>decide (aY x=0)).map qG
theorem Uf{l:List aN}{i:Nat}{x:aN}(h:l[i]? =some x):fB (l.take (i+1))=if aY x=0 then fB (l.take i)++[qG x]else fB (l.take i):=by
 obtain⟨hi,he⟩:=List.getElem?_eq_some_iff.1 h
 unfold fB
 rw[List.take_succ_eq_append_getElem hi,he,List.filter_append,List.map_append]
 by_cases hp:aY x=0
 ·rw[if_pos hp,List.filter_cons,if_pos (decide_eq_true hp)];rfl
 ·rw[if_neg hp,List.filter_cons,if_neg (by simpa using hp)];simp
theorem EL(l:List aN):(fB l).length<=l.length:=by
 unfold fB;rw[List.length_map];exact List.length_filter_le _ _
theorem Xn:Elem Tryz.prog 106 9 1 16:=⟨Tryz.underlying106,⟨_,_,rfl,rfl,rfl,rfl,rfl⟩,by decide⟩
def Ug(w:World)(l:List aN)(e:Ending)(w':World):Prop:=∃A c,e=.returned (.slice A (fB l).length c)/\aF 9 1 w.heap.size w' A (fB l).length c ((fB l).map Value.string)/\Kept aj w w'
attribute [local go_sem↓] Bg
attribute [local go_sem] Bh
theorem GH(w:World)(A0:Option Addr)(c0:Nat)(l:List aN)(hl:Src w 18 A0 l.length (uF l))(hlen:l.length<=1000)(hx:∀x∈l,gU w x/\NU x):
  Calls Tryz.prog 114 #[.slice A0 l.length c0] w (Ug w l):=by
 have HL:=ah hl;have HX:=ah hx;clear hl hx
 go_enter Tryz.func114,Tryz.ntmps114
 go_wp2_with fail
 go_loopw [3,10] (fun v3 v10 wr=>∃(i:Nat) (A:Option Addr) (c:Nat),i<=l.length/\v10=.int .i64 i/\v3=.slice A (fB (l.take i)).length c/\aF 9 1 w.heap.size wr A (fB (l.take i)).length c ((fB (l.take i)).map Value.string)/\Kept aj w wr) (fun _ v10 _=>l.length-(intOf v10).toNat)
 case atStart=>exact⟨0,none,0,Nat.zero_le _,rfl,rfl,aF.nil _ _ _ _,Kept.refl _ _⟩
 case round=>
  obtain⟨i,A,c,hi,rfl,rfl,hr,hk⟩:=hrel
  by_cases hil:i<l.length
  ·obtain⟨x,hx⟩:∃x,l[i]? =some x:=⟨_,List.getElem?_eq_getElem hil⟩
   obtain⟨hok,hu⟩:=HX.out x (List.mem_of_getElem? hx)
   have hput:=fun W (hW:Kept aj wr W)=>I9 ((hok.kept hk).kept hW) hu
   obtain⟨ad,rfl,had,hc⟩:=O7 (HL.out.kept hk (fun _ _ z=>z)) (by omega) i x hx
   obtain⟨u1,u2⟩:=GN rfl hc
   have hs:=Uf hx
   have hb1:=EL (l.take i)
   have hb2:(l.take i).length<=1000:=by rw[List.length_take];omega
   obtain⟨T,hT⟩:∃T,fB (l.take i)=T:=⟨_,rfl⟩
   obtain⟨z,hz⟩:∃z,aY x=z:=⟨_,rfl⟩
   obtain⟨s,hs2⟩:∃s,qG x=s:=⟨_,rfl⟩
   rw[hT]at hs hr hb1⊢
   rw[hz]at hs hput
   rw[hs2]at hs hput
   have PS:∀W,Kept aj wr W->Calls Tryz.prog 108 #[.agg (aH x).toArray] W fun e w'=>e=.returned (.tuple #[.string s,.int .i64 z])/\Kept aj W w':=hput
   have HS:=ah hs;have HR:=ah hr;have HK:=ah hk
   have fQ:Hid (T.length+1<=maxLen):=ah (by unfold maxLen;omega)
   have iC:Hid ((T.length+1)*16<=140737488355328):=ah (by omega)
   clear hs hr hk hz hs2 hT hput hok hu hx hc hb1 hb2
   obtain⟨k,n,at2,ep,uq,uw,ms,fl,lA2,uy,lg,oA,oc,⟨gZ,eG,ops⟩,ts,⟨p1,p2,p3⟩,⟨s1,s2,s3,s4⟩⟩:=x
   simp only[aH]at PS u2
   have HP:=ah PS;clear PS
   by_cases h0:z=0
   ·subst h0
    have hs1:=HS.out
    rw[if_pos rfl]at hs1
    have Bl:=ah hs1;clear hs1 HS
    go_wp2_with (refine wpList_load_row rfl 100 (.tmp 5) rfl wr.heap.size rfl 100 _ (0,0) _ (Has.new _ _ _) Tryz.underlying100 rfl (by kernel_rfl) ?_)
    refine(HP.out _ (by(repeat'(first|(with_reducible first|exact ak|apply au|apply ay|apply aA|apply aB)|(right;simp;done))))).mono ?_
    rintro e w4 ⟨rfl,hk4⟩
    have dR:=ah (Kept.then (F:=aj) (a:=wr) (by(repeat'(first|(with_reducible first|exact ak|apply au|apply ay|apply aA|apply aB)|(right;simp;done)))) hk4);clear hk4 u1 u2
    go_wp2_with (at_builtin;refine aI Xn (.tmp 21) (.tmp 23) rfl rfl (Value.slice A T.length c) rfl (aC (aC HR.out.1 dR.out (fun _ _ x=>x)) (F:=aj) (by(repeat'(first|(with_reducible first|exact ak|apply au|apply ay|apply aA|apply aB)|(right;simp;done)))) (fun _ _ x=>x)) 1 rfl (Src.bW (t:=9) (size:=1) (m:=1) (cs:=#[.string s]) (by(repeat (with_reducible first|exact Has.bP _ _ _ (by simp)|apply Has.drew|apply Has.drewN|apply Has.alloc|(apply Has.past<;>(try omega))))) rfl) (by simp[Value.oneCell']) fQ.out iC.out ?_;intro A1 c1 w9 ho1 hg1 ha1;have hpush:=aF.pushed HR.out (by(repeat'(first|(with_reducible first|exact ak|apply au|apply ay|apply aA|apply aB)|(exact HK.out.then dR.out)|(right;simp;done)))) ho1 hg1 ha1;have HPU:=ah hpush;clear ho1 hg1 ha1 hpush)
    go_roundw
    case rel=>exact⟨i+1,A1,c1,by omega,by go_num,by rw[Bl.out,List.length_append];rfl,by rw[Bl.out,List.length_append,List.map_append];exact HPU.out.1,HPU.out.2⟩
    case measure=>simp[intOf];omega
   ·have hs1:=HS.out
    rw[if_neg h0]at hs1
    have Bl:=ah hs1;clear hs1 HS
    have h2:(z==0)=false:=by simpa using h0
    clear h0
    go_wp2_with (refine wpList_load_row rfl 100 (.tmp 5) rfl wr.heap.size rfl 100 _ (0,0) _ (Has.new _ _ _) Tryz.underlying100 rfl (by kernel_rfl) ?_)
    refine(HP.out _ (by(repeat'(first|(with_reducible first|exact ak|apply au|apply ay|apply aA|apply aB)|(right;simp;done))))).mono ?_
    rintro e w4 ⟨rfl,hk4⟩
    have dR:=ah (HK.out.then (Kept.then (F:=aj) (a:=wr) (by(repeat'(first|(with_reducible first|exact ak|apply au|apply ay|apply aA|apply aB)|(right;simp;done)))) hk4));have DY:=ah (Kept.then (F:=aj) (a:=wr) (by(repeat'(first|(with_reducible first|exact ak|apply au|apply ay|apply aA|apply aB)|(right;simp;done)))) hk4);clear hk4 u1 u2
    go_wp2
    go_roundw
    case rel=>exact⟨i+1,A,c,by omega,by go_num,by rw[Bl.out],by rw[Bl.out];exact HR.out.kept DY.out,dR.out⟩
    case measure=>simp[intOf];omega
  ·obtain rfl:i=l.length:=by omega
   rw[List.take_length]at hr⊢
   have HR:=ah hr;have HK:=ah hk;clear hr hk
   go_wp2
   go_ret
   exact⟨A,c,rfl,HR.out,HK.out⟩
theorem ZO:Elem Tryz.prog 63 143 2 24:=⟨Tryz.underlying63,⟨_,_,rfl,rfl,rfl,rfl,rfl⟩,by decide⟩
theorem MV(l:List xY)(o:xY):rM (l++[o])=rM l++[.int .i64 o.to,.string o.body]:=by
 unfold rM
 rw[List.flatMap_append]
 rfl
open gX in
def jf(M:MR)(to:Int)(x:bH):MR:=if ni x=0 then {M with out:=M.out++[⟨to,Aa x⟩]}else M
def dK(w:World)(X:MX)(M:MR)(c:Nat)(v:Value)(M':MR)(d:Nat)(e:Ending)(w':World):Prop:=e=.returned v/\∃X',Step w X M w' X' M'/\cZ X' M'.lg (c+d)
section
variable{w w':World}{X X0:MX}{M M0:MR}{c:Nat}
open gX in
theorem Ku(h:dG w X M)(hb:cZ X M.lg c)(ho:M.out.length<=1000)(to:Int)(x:bH)(hx:iG w x):
  Calls Tryz.prog 143 #[.pointer (some ⟨X.mb,0,none⟩),.int .i64 to,eH x] w (dK w X M c (.tuple #[]) (jf M to x) 0):=by
 obtain⟨W0,hW0⟩:∃W0,w.alloc (.cells (aG x).toArray 46)=W0:=⟨_,rfl⟩
 have hk0:Kept aj w W0:=by rw[<-hW0];(repeat'(first|(with_reducible first|exact ak|apply au|apply ay|apply aA|apply aB)|(right;simp;done)))
 have hn0:Has W0 w.heap.size 46 (aG x).toArray:=by rw[<-hW0];exact Has.new _ _ _
 have hput:=Xl W0 x (hx.kept hk0)
 have hbad:ni x≠0->∀W,Kept aj w W->dK w X M c (.tuple #[]) (jf M to x) 0 (.returned (.tuple #[])) W:=fun h0 W hW=>by
  have e1:jf M to x=M:=if_neg h0
  rw[e1]
  exact⟨rfl,X,Step.refl h hW,hb⟩
 have hS:ni x=0->jf M to x={M with out:=M.out++[⟨to,Aa x⟩]}:=fun h0=>if_pos h0
 obtain⟨z,hz⟩:∃z,ni x=z:=⟨_,rfl⟩
 obtain⟨s,hs⟩:∃s,Aa x=s:=⟨_,rfl⟩
 rw[hz]at hput hbad hS
 rw[hs]at hput hS
 have HP:=ah hput;have HN:=ah hn0;have aW:=ah hk0;have HBAD:=ah hbad;have HS:=ah hS;have H:=ah h;have HB:=ah hb
 clear hput hn0 hk0 hbad hS h hb hx hz hs
 by_cases h0:z=0
 rotate_left
 ·have h2:(z==0)=false:=by simpa using h0
  have HBD:=ah (HBAD.out h0);clear h0 HBAD
  go_enter Tryz.func143,Tryz.ntmps143
  go_wp2_with (refine wpList_load_row rfl 46 (.tmp 5) rfl w.heap.size rfl 46 _ (0,0) _ HN.out Tryz.underlying46 rfl (by kernel_rfl) ?_)
  clear hW0
  refine HP.out.mono ?_
  rintro e w2 ⟨rfl,hk⟩
  have HF:=ah (HBD.out _ (aW.out.then hk));clear hk
  go_wp2
  go_end0
  exact HF.out
 ·subst h0
  rw[HS.out rfl]
  have fQ:Hid (M.out.length+1<=maxLen):=ah (by unfold maxLen;omega)
  have iC:Hid ((M.out.length+1)*24<=140737488355328):=ah (by omega)
  clear HBAD HS
  go_enter Tryz.func143,Tryz.ntmps143
  go_wp2_with (refine wpList_load_row rfl 46 (.tmp 5) rfl w.heap.size rfl 46 _ (0,0) _ HN.out Tryz.underlying46 rfl (by kernel_rfl) ?_)
  clear hW0
  refine HP.out.mono ?_
  rintro e w2 ⟨rfl,hk⟩
  have hm2:=H.out.quiet (aW.out.then hk)
  have oC:=ah (aW.out.then hk);clear hk
  have q:w2.cell? ⟨X.mb,11,none⟩=some (.slice X.oA M.out.length X.oc):=Has.cell (hm2.c 0) 11
  have hrow:w2.ownsRow 0 143 2 (.slice X.oA M.out.length X.oc) M.out.length (rM M.out):=hm2.c 10
  have iI:=ah hrow;have HM:=ah hm2;clear hrow hm2
  have hmb:X.mb<w2.heap.size:=(HM.out.c 0).lt rfl
  go_wp2_with (at_builtin;refine aI ZO (.tmp 19) (.tmp 23) rfl rfl (Value.slice X.oA M.out.length X.oc) rfl (aC iI.out (F:=aj) (by(repeat'(first|(with_reducible first|exact ak|apply au|apply ay|apply aA|apply aB)|(right;simp;done)))) (fun _ _ x=>x)) 1 rfl (Src.bW (t:=143) (size:=2) (m:=1) (cs:=#[.int .i64 to,.string s]) (by(repeat (with_reducible first|exact Has.bP _ _ _ (by simp)|apply Has.drew|apply Has.drewN|apply Has.alloc|(apply Has.past<;>(try omega))))) rfl) (by simp[Value.oneCell']) fQ.out iC.out ?_;intro A1 c1 w9 ho1 hg1 ha1;have hk9:Kept (fun k=>(Value.slice X.oA M.out.length X.oc).ownBlock=some k) w2 w9:=Kept.grownBy (by(repeat'(first|(with_reducible first|exact ak|apply au|apply ay|apply aA|apply aB)|(right;simp;done)))) hg1 (fun k hk=> .inl hk);have hf9:Has w9 X.mb 65 (B6 X M):=Has.kept (HM.out.c 0) hk9 (fun e=>absurd (HM.out.ap 0 10 _ rfl e) (by decide));have f9:=hf9.frozen 11;have d9:=hf9.cell 11;have HO:=ah ho1;have HA:=ah ha1;have qA:=ah hk9;clear ho1 hg1 ha1 hk9 hf9)
  go_end0
  have hlen:(M.out++[(⟨to,s⟩:xY)]).length=M.out.length+1:=by simp
  have hstep:=Step.aa9 (ws:=w) (X0:=X) (M0:=M) (w:=w2) (Step.refl H.out oC.out) (w9:=w9) (A:=A1) (c:=c1) (l:=M.out++[⟨to,s⟩]) (by rw[hlen,MV];exact HO.out) qA.out (fun k hk=>by
   rw[hlen]at hk
   rcases HA.out with e|e
   ·exact .inl (e.symm.trans hk)
   ·have h9:=e.symm.trans hk
    injection h9 with h9
    simp at h9
    exact .inr (by omega))
  rw[hlen]at hstep
  exact⟨rfl,_,hstep,⟨HB.out.n,HB.out.f,HB.out.l,HB.out.hd⟩⟩
end
end dM
namespace dM
open aP Vn Mst lJ IM nG gX
def sW(s:bV)(A:Option Addr)(c:Nat):bH:=⟨1,0,0,0,false,s.hz,0,0,0,0,0,⟨#[]⟩,⟨#[]⟩,s.ep,A,c,s.ms,s.fl,0,0,none,0,[],none,0,[],none,0,[],none,0,[]⟩
structure SU(s:bV):Prop where
 hz:0<=s.hz/\s.hz<=aT
 fl:0<=s.fl/\s.fl<=aT
 pin:∀p∈s.pins,0<=p.at'/\p.at'<=aT
theorem PT{w:World}{s:bV}{A:Option Addr}{c:Nat}(hs:Src w 2 A s.ms.length (aS s.ms))(hc:s.ms.length<=c)(hok:nR s)(hu:SU s):iG w (sW s A c):=
 ⟨hs,hc,hok.m,Src.nil _ _ _,Src.nil _ _ _,(fun y hy=>by cases hy),Nat.zero_le _,Src.nil _ _ _,Nat.zero_le _,(fun y hy=>by cases hy),Src.nil _ _ _,Nat.zero_le _,⟨hu.hz,⟨Int.le_refl 0,by show(0:Int)<=aT;decide⟩,hu.fl⟩⟩
def jB(M:MR)(to:Int):MR:=jf M to (sW M.st none 0)
section
variable{w w':World}{X X0:MX}{M M0:MR}{c:Nat}
theorem Bo(h:dG w X M)(hb:cZ X M.lg c)(ho:M.out.length<=1000)(hok:nR M.st)(hu:SU M.st)(to:Int):
  Calls Tryz.prog 60 #[.pointer (some ⟨X.mb,0,none⟩),.int .i64 to] w (dK w X M c (.tuple #[]) (jB M to) 0):=by
 have hq:∀W,Kept aj w W->W.cell? ⟨X.mb,2,none⟩=some (.pointer (some ⟨X.sb,0,none⟩)):=fun W hW=>Has.cell ((h.quiet hW).c 0) 2
 have l7:∀W,Kept aj w W->Calls Tryz.prog 48 #[.pointer (some ⟨X.sb,0,none⟩)] W (qU W M.st.ep M.st.fl M.st.ms):=fun W hW=>pV ((h.quiet hW).c 2) hok
 have wL:∀W,Kept aj w W->Calls Tryz.prog 69 #[.pointer (some ⟨X.sb,0,none⟩)] W fun e w'=>e=.returned (.int .u64 M.st.hz)/\Kept aj W w':=fun W hW=>zf ((h.quiet hW).c 2)
 have hsend:∀W A d,Kept aj w W->Src W 2 A M.st.ms.length (aS M.st.ms)->M.st.ms.length<=d->Calls Tryz.prog 143 #[.pointer (some ⟨X.mb,0,none⟩),.int .i64 to,eH (sW M.st A d)] W fun e w'=>dK w X M c (.tuple #[]) (jB M to) 0 e w':=fun W A d hW hs hd=>by
  refine(Ku (h.quiet hW) hb ho to (sW M.st A d) (PT hs hd hok hu)).mono ?_
  rintro e w' ⟨rfl,X',hs,hl⟩
  exact⟨rfl,X',(Step.refl h hW).trans hs,hl⟩
 have hpost:∀e W,dK w X M c (.tuple #[]) (jB M to) 0 e W->e=.returned (.tuple #[])/\W.cell? ⟨X.mb,2,none⟩=some (.pointer (some ⟨X.sb,0,none⟩))\/True:=fun e W _=> .inr trivial
 have HQ:=ah hq;have HC:=ah l7;have HH:=ah wL
 have wK:=ah hsend
 clear hq l7 wL hsend hpost h hb ho hok hu
 obtain⟨MM,hMM⟩:∃MM,jB M to=MM:=⟨_,rfl⟩
 rw[hMM]at wK⊢
 clear hMM
 have hs1:∀W A d,Kept aj w W->Src W 2 A M.st.ms.length (aS M.st.ms)->M.st.ms.length<=d->Calls Tryz.prog 143 #[.pointer (some ⟨X.mb,0,none⟩),.int .i64 to,.agg (aG (sW M.st A d)).toArray] W fun e w'=>dK w X M c (.tuple #[]) MM 0 e w':=wK.out
 simp only[sW,aG,List.length_nil]at hs1
 have HS:=ah hs1;clear hs1 wK
 obtain⟨ms,hms⟩:∃ms,M.st.ms=ms:=⟨_,rfl⟩
 obtain⟨hz,hhz⟩:∃hz,M.st.hz=hz:=⟨_,rfl⟩
 obtain⟨ep,nK⟩:∃ep,M.st.ep=ep:=⟨_,rfl⟩
 obtain⟨fl,hfl⟩:∃fl,M.st.fl=fl:=⟨_,rfl⟩
 rw[hms,nK,hfl]at HC
 rw[hhz]at HH
 rw[hms,hhz,nK,hfl]at HS
 clear hms hhz nK hfl
 have z0:=HQ.out w (Kept.refl _ _)
 go_enter Tryz.func60,Tryz.ntmps60
 go_wp2_with fail
 go_region_held3 (fun W=>W.cell? ⟨X.mb,2,none⟩=some (.pointer (some ⟨X.sb,0,none⟩))) (first|with_reducible exact z3|with_reducible exact z2|with_reducible exact z1|with_reducible exact z0|(simp[go_sem,z0];done))
  (first
   |(have hx:=gI;clear hx;go_at_call 69;refine(HH.out _ (by(repeat'(first|(with_reducible first|exact ak|apply au|apply ay|apply aA|apply aB)|(exact gI.out)|(right;simp;done))))).mono ?_;rintro e w2 ⟨rfl,hk2⟩;have hk:=Kept.then (F:=aj) (a:=w) (by(repeat'(first|(with_reducible first|exact ak|apply au|apply ay|apply aA|apply aB)|(exact gI.out)|(right;simp;done)))) hk2;have z2:=HQ.out _ hk;have HR2:=ah (aF.kept (aF.kept HR.out (by(repeat'(first|(with_reducible first|exact ak|apply au|apply ay|apply aA|apply aB)|(right;simp;done))))) hk2);have aQ:=ah hk;clear hk hk2)
   |(go_at_call 48;refine(HC.out _ (by(repeat'(first|(with_reducible first|exact ak|apply au|apply ay|apply aA|apply aB)|(right;simp;done))))).mono ?_;rintro e w1 ⟨A,d,rfl,hr,hk1⟩;have hk:=Kept.then (F:=aj) (a:=w) (by(repeat'(first|(with_reducible first|exact ak|apply au|apply ay|apply aA|apply aB)|(right;simp;done)))) hk1;have z1:=HQ.out _ hk;have HR:=ah hr;have gI:=ah hk;clear hk hk1 hr)
   |(go_at_call 143;refine(HS.out _ A d (by(repeat'(first|(with_reducible first|exact ak|apply au|apply ay|apply aA|apply aB)|(exact aQ.out)|(right;simp;done)))) (Src.bC (aC HR2.out.1 (F:=aj) (by(repeat'(first|(with_reducible first|exact ak|apply au|apply ay|apply aA|apply aB)|(right;simp;done)))) (fun _ _ z=>z))) (jk HR2.out.1).1).mono ?_;rintro e w3 ⟨rfl,X',hst,hl⟩;have z3:w3.cell? ⟨X.mb,2,none⟩=some (.pointer (some ⟨X.sb,0,none⟩)):=(by have h1:w3.cell? ⟨X'.mb,2,none⟩=some (.pointer (some ⟨X'.sb,0,none⟩)):=Has.cell (hst.at'.c 0) 2;rw[hst.mb,hst.sb]at h1;exact h1);have HP:=ah (And.intro hst hl);clear hst hl))
 clear z0 z1 z2 z3
 go_end0
 exact⟨rfl,X',HP.out.1,HP.out.2⟩
end
end dM
namespace Mst
open aP Vn Go.Sort
theorem pJ:Elem Tryz.prog 167 100 18 192:=by
 obtain⟨i0,hi,hz0,hz1,hz2⟩:=info_parts (show(Tryz.prog.info? 100).map (fun i=>(i.zero,i.size,i.bytes))=some (some (.agg #[.int .i64 0,.int .i64 0,.int .u64 0,.int .i64 0,.slice none 0 0,.int .u64 0,.slice none 0 0,.int .i64 0,.int .i64 0,.slice none 0 0,.int .u64 0,.int .i64 0,.int .u64 0,.int .i64 0,.int .i64 0,.int .i64 0,.int .i64 0,.int .i64 0]),18,192) by kernel_rfl)
 exact⟨Tryz.underlying167,⟨i0,_,hi,hz0,hz1,hz2,rfl⟩,by decide⟩
theorem nT(x:aN):∀u∈aH x,u.oneCell'=true:=by
 intro u hu
 simp[aH]at hu
 rcases hu with rfl|rfl|rfl|rfl|rfl|rfl|rfl|rfl|rfl|rfl|rfl|rfl|rfl|rfl|rfl|rfl|rfl|rfl<;>rfl
theorem MW(l:List aN)(x:aN):uF (l++[x])=uF l++aH x:=by simp[uF]
def zn:aN:=⟨0,0,0,0,none,0,[],0,none,0,[],none,0,⟨0,0,[]⟩,0,⟨0,0,0⟩,⟨0,0,0,0⟩⟩
def rP(s:bV)(A:Option Addr)(c:Nat)(B:Option Addr)(d:Nat):aN:={zn with k:=1,ep:=s.ep,mA:=A,mc:=c,ms:=s.ms,fl:=s.fl,lA:=B,lc:=d,lg:=s.lg}
def kL(p:aZ):aN:={zn with k:=6,pin:=p}
def Cc(n:Int):aN:={zn with k:=7,n:=n}
def fP(h:Int):aN:={zn with k:=4,at':=h}
def rQ(a:kJ):aN:={zn with k:=8,said:=a}
def mg(s:bV):List aN:=if s.pins.any (fun p=>decide (p.id=s.top))=true then []else [Cc s.top]
def jg(s:bV):List kJ:=[s.t0,s.t1,s.t2]
def fK(l:List kJ):List aN:=(l.filter fun a=>decide (a≠lF)).map rQ
def vH(w:World)(s:bV)(pre:List aN):Prop:=(pre=[]/\¬0<s.ep)\/(0<s.ep/\∃A c B d,pre=[rP s A c B d]/\w.ownsRow 0 53 2 (.slice A s.ms.length c) s.ms.length (aS s.ms)/\w.ownsRow 0 3 1 (.slice B s.lg.length d) s.lg.length (ints s.lg))
theorem vH.row{w w':World}{s:bV}{pre:List aN}{v:Value}{n:Nat}{xs:List Value}(h:vH w s pre)(ho:w.ownsRow 0 100 18 v n xs)(hk:Kept (RowOf v) w w'):vH w' s pre:=by
 rcases h with h|⟨h0,A,c,B,d,h1,h2,h3⟩
 ·exact .inl h
 ·refine .inr ⟨h0,A,c,B,d,h1,aC h2 hk (fun g hg hr=> ?_),aC h3 hk (fun g hg hr=> ?_)⟩
  ·obtain⟨cs,hh⟩:=jH ho hr
   exact own_ne h2 hh (by decide) hg
  ·obtain⟨cs,hh⟩:=jH ho hr
   exact own_ne h3 hh (by decide) hg
structure jC(w0:World)(s:bV)(w:World)(pre l:List aN)(A:Option Addr)(c:Nat):Prop where
 own:w.ownsRow 0 100 18 (.slice A l.length c) l.length (uF l)
 new:∀k,RowOf (.slice A l.length c) k->w0.heap.size<=k
 pre:vH w s pre
 kept:Kept aj w0 w
theorem jC.still{w0 w w':World}{s:bV}{pre l:List aN}{A:Option Addr}{c:Nat}(h:jC w0 s w pre l A c)(hk:Kept aj w w'):jC w0 s w' pre l A c:=
 ⟨aC h.own hk (fun _ _ z=>z),h.new,h.pre.row h.own (Kept.up hk),h.kept.then hk⟩
theorem jC.push{w0 w W w':World}{s:bV}{pre l:List aN}{A A1:Option Addr}{c c1:Nat}(x:aN)(h:jC w0 s w pre l A c)(hW:Kept aj w W)
  (ho:w'.ownsRow 0 100 18 (.slice A1 (l.length+1) c1) (l.length+1) (uF l++aH x)) (hg:W.grownBy w' (Value.slice A l.length c).ownBlock)
  (ha:(Value.slice A1 (l.length+1) c1).ownBlock=(Value.slice A l.length c).ownBlock\/(Value.slice A1 (l.length+1) c1).ownBlock=some W.heap.size):jC w0 s w' pre (l++[x]) A1 c1:=by
 have h2:=h.still hW
 refine⟨?_,?_,?_,?_⟩
 ·rw[MW,List.length_append];exact ho
 ·intro k hk
  rw[List.length_append]at hk
  rcases ha with e|e
  ·exact h.new k (e.symm.trans hk)
  ·have h9:=e.symm.trans hk
   injection h9 with h9
   have:=h2.kept.size
   omega
 ·exact h2.pre.row h2.own (Kept.grown (Kept.refl _ _) hg (fun k hk=> .inl hk))
 ·exact h2.kept.grown hg (fun k hk=> .inr (h2.new k hk))
theorem PU(w:World)(p:aZ)(g b:Nat)(s:bV)(mA:Option Addr)(mc:Nat)(lA:Option Addr)(lc:Nat)(pA:Option Addr)(pc:Nat)(hg:Has w g 57 #[.pointer (some ⟨b,0,none⟩)])(hb:Has w b 171 (bZ s mA mc lA lc pA pc true)):
  Calls Tryz.prog 206 #[yQ p,.pointer (some ⟨g,0,none⟩)] w fun e w'=>e=.returned (.bool (decide (p.id=s.top)))/\Kept aj w w':=by
 obtain⟨p1,p2,p3⟩:=p
 obtain⟨W0,hW0⟩:∃W0,w.alloc (.cells #[.int .i64 p1,.int .u64 p2,.int .i64 p3] 79)=W0:=⟨_,rfl⟩
 have hk0:Kept aj w W0:=by rw[<-hW0];(repeat'(first|(with_reducible first|exact ak|apply au|apply ay|apply aA|apply aB)|(right;simp;done)))
 have hn0:Has W0 w.heap.size 79 #[.int .i64 p1,.int .u64 p2,.int .i64 p3]:=by rw[<-hW0];exact Has.new _ _ _
 have c0:W0.cell? ⟨w.heap.size,0,none⟩=some (.int .i64 p1):=hn0.cell 0
 have c1:W0.cell? ⟨g,0,none⟩=some (.pointer (some ⟨b,0,none⟩)):=(hg.kept hk0 (fun z=>z)).cell 0
 have c6:W0.cell? ⟨b,6,none⟩=some (.int .i64 s.top):=(hb.kept hk0 (fun z=>z)).cell 6
 have aW:=ah hk0
 clear hn0 hg hb hk0
 go_enter Tryz.func206,Tryz.ntmps206
 go_wp2_with fail
 clear hW0
 go_quiet (fail)
 go_wp2
 go_ret
 exact⟨rfl,aW.out.drewN _⟩
end Mst
namespace Mst
open aP Vn Go.Sort
def runN(s:bV)(l:List aN):bV:=l.foldl bG s
def wG(l:List aZ):Int:=(l.getLast?.map (·.id)).getD 0
end Mst
end Go.Proofs.YtolkgbafebehfaaGreat

/- Part 40. -/
import Derived.Test.YtgbigpdiacjbgaaGreatKP38
set_option linter.unusedSimpArgs false
set_option linter.unusedVariables false
set_option maxHeartbeats 32000000
set_option maxRecDepth 100000
namespace Go.Proofs.YtgbigpdiacjbgaaGreat
open Go.RowKit
namespace Cli
open bg Ops fG eP Vn Go.Proofs.YtgbigpdiacjbgaaGreat.Ask
def jy(C:dh):dh:=match C.t with
 |none=>C
 |some t=>if t.dn=true then {C with r:=pO t,has:=true,t:=none}else C
section
variable{w w':World}{X X':CX}{C C':dh}
theorem ER(h:gq w X C){t:TS}(ht:C.t=some t)(hl:t.r.ps.length<=1000):Calls Tryz.prog 33 #[.pointer (some ⟨X.cb,0,none⟩)] w fun e w'=>e=.returned (.tuple #[])/\∃X',gV w X C w' X' (jy C):=by
 have hdn:=QB (h.t t ht).1 hl;unfold Ks at hdn;have q4:w.cell? ⟨X.cb,4,none⟩=some (nM X C):=h.b.cell 4;rw[jI ht]at q4;have hs:jy C=if t.dn=true then {C with r:=pO t,has:=true,t:=none}else C:=by unfold jy;rw[ht]
 obtain⟨cb,hcb⟩:∃cb,X.cb=cb:=⟨_,rfl⟩;obtain⟨tb,htb⟩:∃tb,X.px.b=tb:=⟨_,rfl⟩;rw[hcb]at q4⊢;rw[htb]at hdn q4;obtain⟨rp,qU⟩:∃rp,pO t=rp:=⟨_,rfl⟩;rw[qU]at hdn hs;obtain⟨dn,hdd⟩:∃dn,t.dn=dn:=⟨_,rfl⟩;rw[hdd]at hdn hs;obtain⟨r1,r2,r3,r4,r5⟩:=rp;unfold nV iO at hdn;dsimp only at hdn;obtain⟨np,hnp⟩:∃np,r5.length=np:=⟨_,rfl⟩;rw[hnp]at hdn;have qE:=ah hdn;have H:=ah h;have HS:=ah hs;have cu:=ah hcb;have zO:=ah hnp;clear hdn h hs hcb htb qU hdd hnp ht hl;go_enter Tryz.func33,Tryz.ntmps33;go_wp2_with fail;clear q4;refine qE.out.mono ?_;rintro e w3 ⟨A,c,rfl,hrow,hk3⟩;obtain⟨W4,jD⟩:∃W4,w3.alloc (.cells #[.int .i64 r1,.int .i64 r2,.int .u64 r3,.int .i64 r4,.slice A np c] 36)=W4:=⟨_,rfl⟩;have hk4:Kept aj w3 W4:=by rw[<-jD];(repeat'(first|(with_reducible first|exact ay|apply aA|apply aB|apply aC|apply aF)|(right;simp;done)))
 have hb4:Has W4 w3.heap.size 36 #[.int .i64 r1,.int .i64 r2,.int .u64 r3,.int .i64 r4,.slice A np c]:=by rw[<-jD];exact Has.new _ _ _
 have hc4:=H.out.quiet (hk3.then hk4);have hrow4:=hrow.kept hk4;have dX:=ah hrow4;have HC4:=ah hc4;have iU:=ah (hk3.then hk4);cases dn
 ·have hs:=HS.out;rw[if_neg (by decide)]at hs;have HS2:=ah hs;clear hs hrow hk3 hk4 hb4 hc4 hrow4;go_wp2;clear jD;go_end0;exact⟨rfl,X,by rw[HS2.out];exact gV.refl H.out iU.out⟩
 ·have hs:=HS.out;rw[if_pos rfl]at hs;have HS2:=ah hs;have b0:=hb4.cell 0;have b1:=hb4.cell 1;have b2:=hb4.cell 2;have b3:=hb4.cell 3;have b4:=hb4.cell 4;simp at b0 b1 b2 b3 b4;have hcb:=hc4.b;rw[cu.out]at hcb;have y4:W4.cell? ⟨cb,4,none⟩=some (nM X C):=hcb.cell 4;have y5:W4.cell? ⟨cb,5,none⟩=some (.int .i64 C.r.req):=hcb.cell 5;have y6:W4.cell? ⟨cb,6,none⟩=some (.int .i64 C.r.e):=hcb.cell 6;have y7:W4.cell? ⟨cb,7,none⟩=some (.int .u64 C.r.at'):=hcb.cell 7;have y8:W4.cell? ⟨cb,8,none⟩=some (.int .i64 C.r.pin):=hcb.cell 8;have y9:W4.cell? ⟨cb,9,none⟩=some (.slice X.rA C.r.ps.length X.rc):=hcb.cell 9;have LW:W4.cell? ⟨cb,10,none⟩=some (.bool C.has):=hcb.cell 10;have f4:=hcb.frozen 4;have f5:=hcb.frozen 5;have f6:=hcb.frozen 6;have f7:=hcb.frozen 7;have f8:=hcb.frozen 8;have f9:=hcb.frozen 9;have f10:=hcb.frozen 10;have HB:=ah hcb;have AU:=ah hk3.size;clear hs hrow hk3 hk4 hb4 hc4 hrow4 hcb;go_wp2;clear jD;go_end0;have hnp:=zO.out;subst hnp;have hcw:cb<w.heap.size:=by have:=H.out.b.lt;rw[cu.out]at this;exact this
  have hnb:∀k,(Value.slice A r5.length c).ownBlock=some k->w.heap.size<=k:=fun k hk=>dX.out.2 k hk;refine⟨rfl,{X with rA:=A,rc:=c},?_⟩;rw[HS2.out];refine⟨⟨?_,(fun t e=>by cases e),?_,fun k hk=>⟨?_,fun t e=>by cases e⟩⟩,rfl,fun k hk=> ?_,?_⟩
  ·show Has _ X.cb _ _;rw[cu.out];exact Has.aQ (Has.aQ (Has.aQ (Has.aQ (Has.aQ (Has.aQ (Has.aQ HB.out rfl) rfl) rfl) rfl) rfl) rfl) rfl
  ·exact aP (F:=fun k=>k=cb) dX.out.1 (by(repeat'(first|(with_reducible first|exact ay|apply aA|apply aB|apply aC|apply aF)|(exact Or.inl rfl)|(right;simp;done)))) (fun g hg e=>by have:=hnb g hg;omega)
  ·have h1:=hnb k hk;show k≠X.cb;rw[cu.out];omega
  ·rcases hk with rfl|⟨t,e,-⟩|hk
   ·exact .inl (.inl rfl)
   ·cases e
   ·exact .inr (hnb k hk)
  ·have hkk:Kept (pG X C) w W4:=Kept.yM iU.out;exact hkk.trans (G:=fun k=>k=cb) (by(repeat'(first|(with_reducible first|exact ay|apply aA|apply aB|apply aC|apply aF)|(exact Or.inl rfl)|(right;simp;done)))) (fun k hk=> .inl (.inl (hk.trans cu.out.symm)))
end
end Cli
namespace Cli
open bg Ops fG eP Vn Go.Proofs.YtgbigpdiacjbgaaGreat.Ask
def jr(t:TS):Bool:= !t.dn&&decide (t.ph=0)
def iQ(C:dh):dh×List dS:=match C.t with
 |none=>(C,[])
 |some t=>
  if(bu t).2=false then (jy {C with t:=some (bu t).1},[])
  else if jr (bu t).1=false then ({C with t:=some (bu t).1},bn [] (aJ (bu t).1 C.ep C.hd).1 (aJ (bu t).1 C.ep C.hd).2)
  else if 0<=C.hd/\(C.as'=true\/(min (C.tk+1) 1073741824)%4=0)then ({C with t:=some (bu t).1,tk:=min (C.tk+1) 1073741824,as':=false},bn (bn [] (aJ (bu t).1 C.ep C.hd).1 (aJ (bu t).1 C.ep C.hd).2) 4 {bP with k:=15})
  else({C with t:=some (bu t).1,tk:=min (C.tk+1) 1073741824},bn [] (aJ (bu t).1 C.ep C.hd).1 (aJ (bu t).1 C.ep C.hd).2)
section
variable{w w':World}{X X':CX}{C C':dh}
theorem gq.go(h:gq w X C){t t':TS}(ht:C.t=some t){Xp:PX}(hp:kN w' Xp t')(hb:Xp.b=X.px.b)(hf:∀k,jW Xp t' k->jW X.px t k\/w.heap.size<=k)(hk:Kept (jW X.px t) w w'):gV w X C w' {X with px:=Xp} {C with t:=some t'}:=by
 have h1:=h.t t ht;have e1:oz {X with px:=Xp} {C with t:=some t'}=oz X C:=by unfold oz;rw[jI (X:={X with px:=Xp}) (C:={C with t:=some t'}) rfl,jI ht];dsimp only;rw[hb]
 have hlt:=h.b.lt;refine⟨⟨?_,fun u e=> ?_,aP h.r hk (fun k hk=>(h.ar k hk).2 t ht),fun k hk=>⟨(h.ar k hk).1,fun u e hu=> ?_⟩⟩,rfl,fun k hk=> ?_,hk.mono fun k hk=> .inr (.inl ⟨t,ht,hk⟩)⟩
 ·rw[e1];exact h.b.kept hk h1.2
 ·injection e with e;subst e;refine⟨hp,fun hu=> ?_⟩;rcases hf _ hu with y|y
  ·exact h1.2 y
  ·have y':w.heap.size<=X.cb:=y;omega
 ·injection e with e;subst e;rcases hf _ hu with y|y
  ·exact(h.ar k hk).2 t ht y
  ·have:=jB h.r hk;omega
 ·rcases hk with rfl|⟨u,e,hu⟩|hk
  ·exact .inl (.inl rfl)
  ·have e':some t'=some u:=e;injection e' with e';subst e';rcases hf k hu with y|y
   ·exact .inl (.inr (.inl ⟨t,ht,y⟩))
   ·exact .inr y
  ·exact .inl (.inr (.inr hk))
theorem TM(h:gq w X C)(ht:C.t=none):Calls Tryz.prog 12 #[.pointer (some ⟨X.cb,0,none⟩)] w fun e w'=>e=.returned (.slice none 0 0)/\w=w':=by have hn:=kD h;have q:w.cell? ⟨X.cb,4,none⟩=some (nM X C):=h.b.cell 4;rw[uw ht]at q;obtain⟨cb,hcb⟩:∃cb,X.cb=cb:=⟨_,rfl⟩;rw[hcb]at hn q⊢;have HN:=ah hn;clear hn h hcb ht;go_enter Tryz.func12,Tryz.ntmps12;go_wp2_with fail;refine HN.out.mono ?_;rintro e w2 ⟨rfl,rfl⟩;go_wp2;go_ret;exact⟨rfl,rfl⟩
theorem Jy(h:gq w X C)(hok:Oa C){t:TS}(ht:C.t=some t)(hl:(bu t).1.r.ps.length<=1000)(hz:(bu t).2=false):Calls Tryz.prog 12 #[.pointer (some ⟨X.cb,0,none⟩)] w fun e w'=>e=.returned (.slice none 0 0)/\∃X',gV w X C w' X' (jy {C with t:=some (bu t).1}):=by
 have hn:=kD h;have hpt:=IW (h.t t ht).1 (hok.t t ht).1;rw[hz]at hpt;have q:w.cell? ⟨X.cb,4,none⟩=some (nM X C):=h.b.cell 4;rw[jI ht]at q;have hst:∀W,dY w X.px t (.bool false) (bu t).1 (.returned (.bool false)) W->∃X1,X1.cb=X.cb/\gV w X C W X1 {C with t:=some (bu t).1}/\Calls Tryz.prog 33 #[.pointer (some ⟨X.cb,0,none⟩)] W fun e w'=>e=.returned (.tuple #[])/\∃X',gV w X C w' X' (jy {C with t:=some (bu t).1}):=fun W hp=>by obtain⟨-,Xp,p1,p2,p3,p4⟩:=hp;have hs:=h.go ht p1 p2 p3 p4;have PS:=ER hs.at' (t:=(bu t).1) rfl hl;refine⟨{X with px:=Xp},rfl,hs,?_⟩;exact PS.mono fun e w' hq=>⟨hq.1,by obtain⟨X',hx⟩:=hq.2;exact⟨X',hs.trans hx⟩⟩
 obtain⟨cb,hcb⟩:∃cb,X.cb=cb:=⟨_,rfl⟩;obtain⟨tb,htb⟩:∃tb,X.px.b=tb:=⟨_,rfl⟩;rw[hcb]at hn q⊢;simp only[hcb]at hst;rw[htb]at hpt q;have HN:=ah hn;have AP:=ah hpt;have HST:=ah hst;clear hn hpt hst h hcb htb ht hok hl hz;go_enter Tryz.func12,Tryz.ntmps12;go_wp2_with fail;refine HN.out.mono ?_;rintro e w2 ⟨rfl,rfl⟩;go_wp2_with fail;clear q;refine AP.out.mono ?_;intro e w3 hp;obtain⟨rfl,-⟩:=id hp;obtain⟨X1,-,-,PS⟩:=HST.out w3 hp;have abH:=ah PS;clear hp PS;go_wp2_with fail;refine abH.out.mono ?_;rintro e w4 ⟨rfl,X',hx⟩;have HX:=ah hx;clear hx;go_wp2;go_ret;exact⟨rfl,X',HX.out⟩
end
end Cli
namespace Cli
open bg Ops fG eP Vn Go.Proofs.YtgbigpdiacjbgaaGreat.Ask
section
variable{w w':World}{X X':CX}{C C':dh}
def lG(w:World)(X:CX)(C C':dh)(L:List dS)(e:Ending)(w':World):Prop:=
 ∃X' A c,e=.returned (.slice A (List.length L) c)/\gV w X C w' X' C'/\uy w w' A c L
structure Way(w:World)(X:CX)(C:dh)(W:World)(X1:CX)(C1:dh)(lb:Nat)(A:Option Addr)(c:Nat)(L:List dS):Prop where
 st:gV w X C W X1 C1
 bx:sQ W lb A c L
 nb:∀k,yC lb A L.length c k->w.heap.size<=k/\¬pG X1 C1 k
theorem Way.quiet{W W':World}{X1:CX}{C1:dh}{lb c:Nat}{A:Option Addr}{L:List dS}(h:Way w X C W X1 C1 lb A c L)(hk:Kept aj W W'):Way w X C W' X1 C1 lb A c L:=
 ⟨h.st.quiet hk,h.bx.quiet hk,h.nb⟩
theorem Way.new{W W':World}{X1:CX}{C1:dh}{lb:Nat}(h:gV w X C W X1 C1)(hb:sQ W' lb none 0 [])(hl:W.heap.size<=lb)(hk:Kept aj W W'):Way w X C W' X1 C1 lb none 0 []:=by
 refine⟨h.quiet hk,hb,fun k hf=> ?_⟩;rcases hf with rfl|hf
 ·exact⟨Nat.le_trans h.k.size hl,fun hc=>by have:=h.at'.lt hc;omega⟩
 ·simp[Value.ownBlock]at hf
theorem Way.put{W W':World}{X1:CX}{C1:dh}{lb c:Nat}{A:Option Addr}{L L':List dS}{e:Ending}(h:Way w X C W X1 C1 lb A c L)(hp:Ip W lb A c L L' e W'):e=.returned (.tuple #[])/\∃A' c',Way w X C W' X1 C1 lb A' c' L'/\Kept (yC lb A L.length c) W W':=by
 obtain⟨he,A',c',hb,hk,hn⟩:=hp;refine⟨he,A',c',⟨⟨h.st.at'.lQ hk (fun k hc hf=>(h.nb k hf).2 hc),h.st.cb,h.st.g,h.st.k.trans hk (fun k hf=> .inr (h.nb k hf).1)⟩,hb,fun k hf=> ?_⟩,hk⟩;rcases hn k hf with y|y
 ·exact h.nb k y
 ·have:=h.st.k.size;exact⟨by omega,fun hc=>by have:=h.st.at'.lt hc;omega⟩
theorem Way.out{W:World}{X1:CX}{C1:dh}{lb c:Nat}{A:Option Addr}{L:List dS}(h:Way w X C W X1 C1 lb A c L):lG w X C C1 L (.returned (.slice A L.length c)) W:=
 ⟨X1,A,c,rfl,h.st,h.bx.r,fun k hk=>(h.nb k (.inr hk)).1⟩
theorem Way.nums{W W':World}{X1:CX}{C1 C2:dh}{lb c:Nat}{A:Option Addr}{L:List dS}(h:Way w X C W X1 C1 lb A c L)(hk:Kept (fun k=>k=X1.cb) W W')(hb:Has W' X1.cb 38 (oz X1 C2))(ht:C2.t=C1.t)(hr:C2.r=C1.r):Way w X C W' X1 C2 lb A c L:=by have hs:=h.st.at'.nums hk hb ht hr;refine⟨h.st.trans hs,h.bx.lQ hk (fun k hf e=>(h.nb k hf).2 (.inl e)),fun k hf=>⟨(h.nb k hf).1,fun hc=>(h.nb k hf).2 ?_⟩⟩;unfold pG at hc⊢;rw[ht,hr]at hc;exact hc
theorem Yj(h:gq w X C)(hok:Oa C){t:TS}(ht:C.t=some t)(hz:(bu t).2=true)(h2:mV (bu t).1/\(bu t).1.bo.length<=1000)(hat:atOk (bu t).1):Calls Tryz.prog 12 #[.pointer (some ⟨X.cb,0,none⟩)] w (lG w X C (iQ C).1 (iQ C).2):=by
 have hn:=kD h;have hpt:=IW (h.t t ht).1 (hok.t t ht).1;rw[hz]at hpt;have q:w.cell? ⟨X.cb,4,none⟩=some (nM X C):=h.b.cell 4;rw[jI ht]at q
 have htc:iQ C=if jr (bu t).1=false then ({C with t:=some (bu t).1},bn [] (aJ (bu t).1 C.ep C.hd).1 (aJ (bu t).1 C.ep C.hd).2)
  else if 0<=C.hd/\(C.as'=true\/(min (C.tk+1) 1073741824)%4=0)then ({C with t:=some (bu t).1,tk:=min (C.tk+1) 1073741824,as':=false},bn (bn [] (aJ (bu t).1 C.ep C.hd).1 (aJ (bu t).1 C.ep C.hd).2) 4 {bP with k:=15})
  else({C with t:=some (bu t).1,tk:=min (C.tk+1) 1073741824},bn [] (aJ (bu t).1 C.ep C.hd).1 (aJ (bu t).1 C.ep C.hd).2):=by
  unfold iQ
  rw[ht]
  dsimp only
  rw[if_neg (by rw[hz];decide)]
 obtain⟨t',ht'⟩:∃t',(bu t).1=t':=⟨_,rfl⟩;rw[ht']at hpt h2 hat htc;have hst:∀W,dY w X.px t (.bool true) t' (.returned (.bool true)) W->∃X1:CX,X1.cb=X.cb/\X1.px.b=X.px.b/\gV w X C W X1 {C with t:=some t'}:=fun W hp=>by obtain⟨-,Xp,p1,p2,p3,p4⟩:=hp;exact⟨{X with px:=Xp},rfl,p2,h.go ht p1 p2 p3 p4⟩
 obtain⟨cb,hcb⟩:∃cb,X.cb=cb:=⟨_,rfl⟩;obtain⟨tb,htb⟩:∃tb,X.px.b=tb:=⟨_,rfl⟩;rw[hcb]at hn q⊢;simp only[hcb,htb]at hst;rw[htb]at hpt q;have HN:=ah hn;have AP:=ah hpt;have HST:=ah hst;have H2:=ah h2;have HAT:=ah hat;have IX:=ah htc;have wL:=ah hok;clear hn hpt hst h hcb htb ht hok hz h2 hat htc ht';generalize hQ:lG w X C (iQ C).1 (iQ C).2=Q;have HQ:=ah hQ;clear hQ;go_enter Tryz.func12,Tryz.ntmps12;go_wp2_with fail;refine HN.out.mono ?_;rintro e w2 ⟨rfl,rfl⟩;go_wp2_with fail;clear q;refine AP.out.mono ?_;intro e w3 hp;obtain⟨rfl,-⟩:=id hp;obtain⟨X1,hx1,hx2,hs3⟩:=HST.out w3 hp;have qJ:=ah hs3;have Ak:=ah (And.intro hx1 hx2);clear hp hs3 hx1 hx2 HST AP HN;go_wp2_with fail;refine(CS w3).mono ?_;rintro e w6 ⟨lb,rfl,hbx,hlb,hk6⟩;have qR:=ah (Way.new qJ.out hbx hlb hk6);clear hbx hlb hk6 qJ;have hcl:∀W,gq W X1 {C with t:=some t'}->W.cell? ⟨cb,4,none⟩=some (.pointer (some ⟨tb,0,none⟩))/\W.cell? ⟨cb,2,none⟩=some (.int .i64 C.ep)/\W.cell? ⟨cb,3,none⟩=some (.int .i64 C.hd):=fun W hc=>by have h1:=hc.b;rw[Ak.out.1]at h1;have h4:W.cell? ⟨cb,4,none⟩=some (nM X1 {C with t:=some t'}):=h1.cell 4;rw[jI (C:={C with t:=some t'}) rfl,Ak.out.2]at h4;exact⟨h4,h1.cell 2,h1.cell 3⟩
 have nP:=ah hcl;have hnx:∀W,Kept aj w6 W->Calls Tryz.prog 27 #[.pointer (some ⟨tb,0,none⟩),.int .i64 C.ep,.int .i64 C.hd] W (Ask.jJ W t' C.ep C.hd):=fun W hW=>by have h1:=vS ((qR.out.quiet hW).st.at'.t t' rfl).1 H2.out.1 H2.out.2 C.ep C.hd;rw[Ak.out.2]at h1;exact h1
 unfold Ask.jJ at hnx;have hxo:=fun W A c (hs:Src W 3 A (aJ t' C.ep C.hd).2.ops.length (cells (aJ t' C.ep C.hd).2.ops))=>EP HAT.out C.ep C.hd (c:=c) hs;obtain⟨p,hp⟩:∃p,aJ t' C.ep C.hd=p:=⟨_,rfl⟩;simp only[hp]at hnx hxo;have Dn:=ah hp;have jT:=ah hnx;have Dp:=ah hxo;clear hnx hxo hp hcl;have s6:=nP.out w6 qR.out.st.at';go_wp2_with fail
 go_region_held3 (fun W=>W.cell? ⟨cb,4,none⟩=some (.pointer (some ⟨tb,0,none⟩))/\W.cell? ⟨cb,2,none⟩=some (.int .i64 C.ep)/\W.cell? ⟨cb,3,none⟩=some (.int .i64 C.hd)) (first|with_reducible exact s8|with_reducible exact s7|with_reducible exact s6|(refine nP.out _ (qR.out.quiet ?_).st.at';(repeat'(first|(with_reducible first|exact ay|apply aA|apply aB|apply aC|apply aF)|(right;simp;done)));done))
  (first
   |(go_at_call 27;refine(jT.out _ (by(repeat'(first|(with_reducible first|exact ay|apply aA|apply aB|apply aC|apply aF)|(right;simp;done))))).mono ?_;rintro e w7 ⟨A7,c7,rfl,hs7,Eo,-,aZ⟩;have hkk:=Kept.then (F:=aj) (a:=w6) (by(repeat'(first|(with_reducible first|exact ay|apply aA|apply aB|apply aC|apply aF)|(right;simp;done)))) aZ;have hw7:=qR.out.quiet hkk;have s7:=nP.out w7 hw7.st.at';have Xl:=ah (Dp.out w7 A7 c7 hs7);have xM:=ah hw7;clear hs7 Eo aZ hkk hw7)
   |(go_at_call 52;refine(put_any xM.out.bx (by decide) _ _ Xl.out).mono ?_;intro e w8 hpp;obtain⟨rfl,A8,c8,hw8,-⟩:=xM.out.put hpp;have s8:=nP.out w8 hw8.st.at';have Am:=ah hw8;clear hw8 hpp))
 clear s6 s7;have hwr:Calls Tryz.prog 31 #[.pointer (some ⟨tb,0,none⟩)] w8 fun e w'=>e=.returned (.bool (jr t'))/\Kept aj w8 w':=by have h1:=EZ (Am.out.st.at'.t t' rfl).1;rw[Ak.out.2]at h1;exact h1
 have e1:bn [] p.1 {p.2 with oA:=A7,oc:=c7}=bn [] (aJ t' C.ep C.hd).1 (aJ t' C.ep C.hd).2:=by rw[Dn.out];rfl
 rw[e1]at Am;obtain⟨L1,hL1⟩:∃L1,bn [] (aJ t' C.ep C.hd).1 (aJ t' C.ep C.hd).2=L1:=⟨_,rfl⟩;have hl1:L1.length<=1:=by rw[<-hL1];exact mO _ _ _
 have htc:=IX.out;rw[hL1]at Am htc;obtain⟨wv,hwv⟩:∃wv,jr t'=wv:=⟨_,rfl⟩;rw[hwv]at hwr htc;have rQ:=ah hwr;have PT:=ah htc;have kH:=ah hl1;clear hwr e1 htc hL1 hwv hl1 IX Dn jT Dp qR Xl xM;cases wv
 ·have htc:=PT.out;rw[if_pos rfl]at htc;have PU:=ah htc;clear htc PT;go_wp2_with fail;clear s8;refine rQ.out.mono ?_;rintro e w9 ⟨rfl,hk9⟩;have rC:=ah (Am.out.quiet hk9);clear hk9;go_wp2_with fail;refine(lV rC.out.bx).mono ?_;rintro e w10 ⟨rfl,rfl⟩;have hfin:=rC.out.out;have htc:=PU.out;have hq:=HQ.out;rw[htc]at hq;dsimp only at hq;rw[hq]at hfin;have HF:=ah hfin;clear hfin htc hq;go_wp2;exact HF.out
 ·have htc:=PT.out;rw[if_neg (by decide)]at htc;have PU:=ah htc;clear htc PT;go_wp2_with fail;clear s8;refine rQ.out.mono ?_;rintro e w9 ⟨rfl,hk9⟩;have rC:=ah (Am.out.quiet hk9);clear hk9 rQ Am;have Ep:=rC.out.st.at'.b;rw[Ak.out.1]at Ep;have y12:w9.cell? ⟨cb,12,none⟩=some (.int .i64 C.tk):=Ep.cell 12;have f12:=Ep.frozen 12;have htk:=wL.out.tk;have abI:IntKind.i64.wrap (C.tk+1)=C.tk+1:=IntWalk.i64_in _ (by omega);have hmn:=rU (C.tk+1) 1073741824 _ rfl;obtain⟨M,hM⟩:∃M,min (C.tk+1) 1073741824=M:=⟨_,rfl⟩;rw[hM]at hmn;have htc:=PU.out;rw[hM]at htc;have xg:Has (w9.setCell ⟨cb,12,none⟩ (.int .i64 M)) cb 38 (oz X1 {C with t:=some t',tk:=M}):=Has.aQ Ep rfl;have aam:Way w X C (w9.setCell ⟨cb,12,none⟩ (.int .i64 M)) X1 {C with t:=some t',tk:=M} lb A8 c8 L1:=rC.out.nums (by rw[Ak.out.1];(repeat'(first|(with_reducible first|exact ay|apply aA|apply aB|apply aC|apply aF)|(exact Or.inl rfl)|(right;simp;done)))) (by rw[Ak.out.1];exact xg) rfl rfl;have z3:=xg.cell 3;have z11:=xg.cell 11;have z12:=xg.cell 12;have f11:=xg.frozen 11;simp[oz]at z3 z11 z12;have oh:=ah aam;have acv:=ah xg;have hm0:0<=M:=by omega
  have CV:(M.tmod 4==0)=decide (M%4=0):=by
   rw[Int.tmod_eq_emod_of_nonneg hm0];by_cases h:M%4=0
   ·rw[decide_eq_true h];simpa using h
   ·rw[decide_eq_false h];simpa using h
  obtain⟨b,hb⟩:∃b,decide (M%4=0)=b:=⟨_,rfl⟩;rw[hb]at CV;obtain⟨g,hg⟩:∃g,decide (0<=C.hd/\(C.as'=true\/M%4=0))=g:=⟨_,rfl⟩;have hgg:g=(decide (0<=C.hd)&&(C.as'||b)):=by rw[<-hg,<-hb];simp
  have aan:iQ C=if g=true then ({C with t:=some t',tk:=M,as':=false},bn L1 4 {bP with k:=15})else({C with t:=some t',tk:=M},L1):=by rw[htc,<-hg];simp
  have HT3:=ah aan;have Jg:=ah hgg;obtain⟨as0,LX⟩:∃as0,C.as'=as0:=⟨_,rfl⟩;rw[LX]at z11 hgg;clear Ep aam xg htc PU htk hM hb hg aan hm0 LX Jg;have hno:g=false->lG w X C (iQ C).1 (iQ C).2 (.returned (.slice A8 L1.length c8)) (w9.setCell ⟨cb,12,none⟩ (.int .i64 M)):=fun hg=>by have h1:=HT3.out;rw[hg,if_neg (by decide)]at h1;rw[h1];exact oh.out.out
  rw[HQ.out]at hno;have oP:=ah hno;clear hno;by_cases hhd:0<=C.hd;rotate_left
  ·have hg0:g=false:=by rw[hgg,decide_eq_false hhd];rfl
   have HF:=ah (oP.out hg0);clear hgg hg0 CV z11 z12 f11 oP;go_wp2_with fail;refine(lV oh.out.bx).mono ?_;rintro e iP ⟨rfl,rfl⟩;go_wp2;exact HF.out
  have hyes:g=true->∀W A c,Way w X C W X1 {C with t:=some t',tk:=M,as':=false} lb A c (bn L1 4 {bP with k:=15})->lG w X C (iQ C).1 (iQ C).2 (.returned (.slice A (bn L1 4 {bP with k:=15}).length c)) W:=fun hg W A c hw=>by have h1:=HT3.out;rw[hg,if_pos rfl]at h1;rw[h1];exact hw.out
  simp only[HQ.out]at hyes;have LY:=ah hyes;clear hyes;have hzx:∀W,pU W {bP with k:=15}:=fun W=>by
   have hz:(0:Int)<=0/\(0:Int)<=aY:=by unfold aY;decide
   exact⟨Src.nil _ _ _,Nat.le_refl _,Nat.zero_le _,Src.nil _ _ _,Src.nil _ _ _,(fun y hy=>by cases hy),Nat.zero_le _,Src.nil _ _ _,Nat.zero_le _,(fun y hy=>by cases hy),Src.nil _ _ _,Nat.zero_le _,hz,hz,hz⟩
  have hput:∀W,Kept aj (w9.setCell ⟨cb,12,none⟩ (.int .i64 M)) W->Calls Tryz.prog 52 #[.int .i64 4,.agg (bJ.Ee 15),.pointer (some ⟨lb,0,none⟩)] W fun e w'=>e=.returned (.tuple #[])/\∃A' c',Way w X C w' X1 {C with t:=some t',tk:=M} lb A' c' (bn L1 4 {bP with k:=15}):=fun W hW=>by have hw:=oh.out.quiet hW;refine(put_any hw.bx (by have:=kH.out;omega) 4 {bP with k:=15} (hzx W)).mono fun e w' hp=> ?_;obtain⟨he,A',c',h1,-⟩:=hw.put hp;exact⟨he,A',c',h1⟩
  have Bo:=ah hput;clear hput hzx;cases as0
  ·cases b
   ·have hg0:g=false:=by rw[hgg];simp
    have HF:=ah (oP.out hg0);clear hgg hg0 oP LY Bo f11;go_wp2_with fail;refine(lV oh.out.bx).mono ?_;rintro e iP ⟨rfl,rfl⟩;go_wp2;exact HF.out
   ·have hg1:g=true:=by rw[hgg,decide_eq_true hhd];rfl
    have HG:=ah hg1;clear hgg hg1 oP f11;go_wp2_with fail;clear z3 z11 z12 CV;refine(Bo.out _ (Kept.refl _ _)).mono ?_;rintro e iP ⟨rfl,A2,c2,FW⟩;have Ap:=FW.st.at'.b;rw[Ak.out.1]at Ap;have JA:iP.cell? ⟨cb,11,none⟩=some (.bool C.as'):=Ap.cell 11;have f11:=Ap.frozen 11;have Aq:Way w X C (iP.setCell ⟨cb,11,none⟩ (.bool false)) X1 {C with t:=some t',tk:=M,as':=false} lb A2 c2 (bn L1 4 {bP with k:=15}):=FW.nums (by rw[Ak.out.1];(repeat'(first|(with_reducible first|exact ay|apply aA|apply aB|apply aC|apply aF)|(exact Or.inl rfl)|(right;simp;done)))) (by rw[Ak.out.1];exact Has.aQ Ap rfl) rfl rfl;have xu:=ah Aq;clear FW Ap Aq;go_wp2_with fail;refine(lV xu.out.bx).mono ?_;rintro e xO ⟨rfl,rfl⟩;have HF:=ah (LY.out HG.out _ _ _ xu.out);go_wp2;exact HF.out
  ·have hg1:g=true:=by rw[hgg,decide_eq_true hhd];rfl
   have HG:=ah hg1;clear hgg hg1 oP f11;go_wp2_with fail;clear z3 z11 z12 CV;refine(Bo.out _ (Kept.refl _ _)).mono ?_;rintro e iP ⟨rfl,A2,c2,FW⟩;have Ap:=FW.st.at'.b;rw[Ak.out.1]at Ap;have JA:iP.cell? ⟨cb,11,none⟩=some (.bool C.as'):=Ap.cell 11;have f11:=Ap.frozen 11;have Aq:Way w X C (iP.setCell ⟨cb,11,none⟩ (.bool false)) X1 {C with t:=some t',tk:=M,as':=false} lb A2 c2 (bn L1 4 {bP with k:=15}):=FW.nums (by rw[Ak.out.1];(repeat'(first|(with_reducible first|exact ay|apply aA|apply aB|apply aC|apply aF)|(exact Or.inl rfl)|(right;simp;done)))) (by rw[Ak.out.1];exact Has.aQ Ap rfl) rfl rfl;have xu:=ah Aq;clear FW Ap Aq;go_wp2_with fail;refine(lV xu.out.bx).mono ?_;rintro e xO ⟨rfl,rfl⟩;have HF:=ah (LY.out HG.out _ _ _ xu.out);go_wp2;exact HF.out
end
end Cli
namespace Cli
open bg Ops fG eP Vn Go.Proofs.YtgbigpdiacjbgaaGreat.Ask
def aV(C:dh)(f:Int)(x:aO):dh×List dS:=match C.t with
 |none=>((bC C f x).1,[])
 |some t=>(jy {(bC C f x).1 with t:=some (aI t f x).1},
   if(aI t f x).2=true then bn (if(bC C f x).2=true/\jr t=true then bn [] (aJ t (bC C f x).1.ep (bC C f x).1.hd).1 (aJ t (bC C f x).1.ep (bC C f x).1.hd).2 else []) (aJ (aI t f x).1 (bC C f x).1.ep (bC C f x).1.hd).1 (aJ (aI t f x).1 (bC C f x).1.ep (bC C f x).1.hd).2
   else(if(bC C f x).2=true/\jr t=true then bn [] (aJ t (bC C f x).1.ep (bC C f x).1.hd).1 (aJ t (bC C f x).1.ep (bC C f x).1.hd).2 else []))
theorem gW(C:dh)(f:Int)(x:aO):aV C f (bJ.strip x)=aV C f x:=rfl
def jk(C:dh)(f:Int)(s:ByteArray):dh×List dS:=
 if(bl s)[0]? ≠some 77 then (C,[])
 else if(bJ.ofM (s.extract 1 s.size)).2≠0 then (C,[])
 else aV C f (bJ.ofM (s.extract 1 s.size)).1
section
variable{w w':World}{X X':CX}{C C':dh}
theorem JH(h:gq w X C)(f:Int):Calls Tryz.prog 11 #[.pointer (some ⟨X.cb,0,none⟩),.int .i64 f,.string ⟨#[]⟩] w fun e w'=>e=.returned (.slice none 0 0)/\w=w':=by have HN:=ah (kD h);clear h;go_enter Tryz.func11,Tryz.ntmps11;go_wp2_with fail;refine HN.out.mono ?_;rintro e w2 ⟨rfl,rfl⟩;go_wp2;go_ret;exact⟨rfl,rfl⟩
theorem JI(h:gq w X C)(f:Int)(s:ByteArray)(hs:0<s.size)(hb:s[0].toNat≠77):Calls Tryz.prog 11 #[.pointer (some ⟨X.cb,0,none⟩),.int .i64 f,.string s] w fun e w'=>e=.returned (.slice none 0 0)/\w=w':=by
 have HN:=ah (kD h);have hne:(s.toList==([]:List UInt8))=false:=by
  cases hl:s.toList with
  |nil=>have h1:=congrArg List.length hl
        have h2:s.toList.length=s.size:=by rw[<-iw s];simp[bl,ByteArray.toList_eq]
        rw[h1]at h2
        simp at h2
        omega
  |cons a l=>rfl
 clear h;go_enter Tryz.func11,Tryz.ntmps11;go_wp2_with fail;refine HN.out.mono ?_;rintro e w2 ⟨rfl,rfl⟩;go_wp2;go_ret;exact⟨rfl,rfl⟩
end
end Cli
namespace Cli
open bg Ops fG eP Vn Go.Proofs.YtgbigpdiacjbgaaGreat.Ask
def PV(w:World)(v:Value):Prop:=∀W,Kept aj w W->Calls Tryz.prog 24 #[v] W fun e w'=>e=.returned (.bool true)/\W=w'
theorem PV.kept{w w':World}{v:Value}(h:PV w v)(hk:Kept aj w w'):PV w' v:=fun W hW=>h W (hk.then hW)
section
variable{w:World}{v:Value}
end
end Cli
namespace Cli
open bg Ops fG eP Vn Go.Proofs.YtgbigpdiacjbgaaGreat.Ask
structure sF where
 k:Int
 a:iZ
 fr:Int
 body:ByteArray
def yN(x:sF):List Value:=.int .i64 x.k::(bQ x.a++[.int .i64 x.fr,.string x.body])
def BU(l:List sF):List Value:=l.flatMap yN
theorem CW{w:World}{A:Option Addr}{m:Nat}{l:List sF}(h:Src w 10 A m (BU l))(hm:0<m)(i:Nat)(x:sF)(hx:l[i]? =some x):
  ∃ad,A=some ad/\ad.block<w.heap.size/\∀j u,(yN x)[j]? =some u->w.cell? ((ad.add (i*10)).add j)=some u:=by
 obtain⟨ad,rfl,had,hcell⟩:=h.2 hm;refine⟨ad,rfl,had,fun j u hu=> ?_⟩;have hj:j<10:=(lD0.1 hu).1;rw[add_add];refine hcell _ _ ?_;unfold BU;rw[flat_get yN 10 (by decide) (fun _=>rfl),show(i*10+j)/10=i by omega,show(i*10+j)%10=j by omega,hx];exact hu
def xw(x:sF):Bool:=decide (x.a.ops.length<=20)&&(decide (x.a.key.size<=100)&&(decide (x.a.to.size<=100)&&decide (x.body.size<=3000)))
def Bz(l:List sF):Bool:=(l.take 60).all xw
theorem LZ{x:sF}(h:xw x=true):x.a.ops.length<=20/\x.a.key.size<=100/\x.a.to.size<=100/\x.body.size<=3000:=by unfold xw at h;simp only[Bool.and_eq_true,decide_eq_true_eq]at h;exact h
theorem V3{x:sF}(h:20<x.a.ops.length\/100<x.a.key.size\/100<x.a.to.size\/3000<x.body.size):xw x=false:=by
 cases hf:xw x with
 |false=>rfl
 |true=>have:=LZ hf;omega
theorem Yk{x:sF}(h1:¬20<x.a.ops.length)(h2:¬100<x.a.key.size)(h3:¬100<x.a.to.size)(h4:¬3000<x.body.size):xw x=true:=by unfold xw;simp only[Bool.and_eq_true,decide_eq_true_eq];omega
theorem V5{l:List sF}(h:Bz l=true){i:Nat}{x:sF}(hi:i<60)(hx:l[i]? =some x):xw x=true:=by unfold Bz at h;rw[List.all_eq_true]at h;exact h x (lC0 (i:=i) (by rw[List.getElem?_take,if_pos hi];exact hx))
theorem Yl(w:World)(A:Option Addr)(c:Nat)(l:List sF)(hl:Src w 10 A l.length (BU l))(hls:∀x∈l,x.a.ops.length<=maxLen/\x.a.key.size<=maxLen/\x.a.to.size<=maxLen/\x.body.size<=maxLen):
  Calls Tryz.prog 6 #[.slice A l.length c] w fun e w'=>e=.returned (.bool (Bz l))/\Kept aj w w':=by
 have hsh:Bz l=((l.take 60).drop 0).all xw:=by rw[List.drop_zero];rfl
 have HL:=ah hl;have HLS:=ah hls;have HSH:=ah hsh;clear hl hls hsh;go_enter Tryz.func6,Tryz.ntmps6;go_wp2_with fail;go_loopw [3] (fun v3 wr=>∃i:Nat,i<=60/\i<=l.length/\v3=.int .i64 i/\Bz l=((l.take 60).drop i).all xw/\Kept aj w wr) (fun v3 _=>l.length-(intOf v3).toNat)
 case atStart=>exact⟨0,by omega,Nat.zero_le _,rfl,HSH.out,Kept.refl _ _⟩
 case round=>
  obtain⟨i,hi,hi2,rfl,he,hk⟩:=hrel;have HE:=ah he;have HK:=ah hk;clear he hk;by_cases hil:i<l.length
  ·by_cases hi6:i<60
   ·obtain⟨x,hx⟩:∃x,l[i]? =some x:=⟨_,lB0 hil⟩;obtain⟨ad,rfl,had,hc⟩:=CW (HL.out.kept HK.out (fun _ _ z=>z)) (by omega) i x hx;have p7:=hc 7 _ rfl;have p3:=hc 3 _ rfl;have p4:=hc 4 _ rfl;have p9:=hc 9 _ rfl;rw[add_lit _ (by decide)]at p7 p3 p4 p9;have hd:(l.take 60).drop i=x::(l.take 60).drop (i+1):=bg.drop_cons (by rw[List.getElem?_take,if_pos hi6];exact hx);rw[hd,List.all_cons]at HE;obtain⟨k1,k2,k3,k4⟩:=HLS.out x (lC0 hx);unfold maxLen at k1 k2 k3 k4;have aao:=ah (V3 (x:=x));have aap:=ah (Yk (x:=x));have hbad:xw x=false->Bz l=false:=fun h=>by rw[HE.out,h,Bool.false_and]
    have HBAD:=ah hbad;clear hbad;obtain⟨xk,⟨ak,and',key,to,at',an,oA,oc,ops⟩,fr,body⟩:=x;dsimp only at p7 p3 p4 p9 k1 k2 k3 k4;obtain⟨n1,e1⟩:∃n,ops.length=n:=⟨_,rfl⟩;rw[e1]at k1 p7;have abJ:=ah (show¬20<n1->¬100<key.size->¬100<to.size->¬3000<body.size->xw ⟨xk,⟨ak,and',key,to,at',an,oA,oc,ops⟩,fr,body⟩=true by rw[<-e1];exact aap.out);have PW:=ah (show 20<n1\/100<key.size\/100<to.size\/3000<body.size->xw ⟨xk,⟨ak,and',key,to,at',an,oA,oc,ops⟩,fr,body⟩=false by rw[<-e1];exact aao.out);clear hd hx hc e1 aap aao;by_cases g1:20<n1
    ·have g1':(20:Int)<(n1:Int):=by omega
     have HF:=ah (HBAD.out (PW.out (.inl g1)));clear g1 k2 k3 k4 p3 p4 p9;go_wp2;go_ret;exact⟨by rw[HF.out];rfl,HK.out⟩
    have g1':¬(20:Int)<(n1:Int):=by omega
    by_cases g2:100<key.size
    ·have g2':(100:Int)<(key.size:Int):=by omega
     have HF:=ah (HBAD.out (PW.out (.inr (.inl g2))));clear g1 g2 k3 k4 p4 p9;go_wp2;go_ret;exact⟨by rw[HF.out];rfl,HK.out⟩
    have g2':¬(100:Int)<(key.size:Int):=by omega
    by_cases g3:100<to.size
    ·have g3':(100:Int)<(to.size:Int):=by omega
     have HF:=ah (HBAD.out (PW.out (.inr (.inr (.inl g3)))));clear g1 g2 g3 k4 p9;go_wp2;go_ret;exact⟨by rw[HF.out];rfl,HK.out⟩
    have g3':¬(100:Int)<(to.size:Int):=by omega
    by_cases g4:3000<body.size
    ·have g4':(3000:Int)<(body.size:Int):=by omega
     have HF:=ah (HBAD.out (PW.out (.inr (.inr (.inr g4)))));clear g1 g2 g3 g4;go_wp2;go_ret;exact⟨by rw[HF.out];rfl,HK.out⟩
    have g4':¬(3000:Int)<(body.size:Int):=by omega
    have jH:=ah (show Bz l=((l.take 60).drop (i+1)).all xw by rw[HE.out,abJ.out g1 g2 g3 g4,Bool.true_and]);clear g1 g2 g3 g4;go_wp2;go_roundw
    case rel=>exact⟨i+1,by omega,by omega,by go_num,jH.out,HK.out⟩
    case measure=>simp[intOf];omega
   ·obtain rfl:i=60:=by omega
    have HF:=ah (show Bz l=true by rw[HE.out,List.drop_eq_nil_of_le (by rw[List.length_take];omega)];rfl);go_wp2;go_ret;exact⟨by rw[HF.out];rfl,HK.out⟩
  ·obtain rfl:i=l.length:=by omega
   have HF:=ah (show Bz l=true by rw[HE.out,List.drop_eq_nil_of_le (by rw[List.length_take];omega)];rfl);go_wp2;go_ret;exact⟨by rw[HF.out];rfl,HK.out⟩

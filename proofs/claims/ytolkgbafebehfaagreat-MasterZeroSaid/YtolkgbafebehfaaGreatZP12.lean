/- Part 13 of what the proof needs. -/
import Derived.Test.YtolkgbafebehfaaGreatZP11
set_option linter.unusedSimpArgs false
set_option linter.unusedVariables false
set_option maxHeartbeats 32000000
set_option maxRecDepth 100000
namespace Go.Proofs.YtolkgbafebehfaaGreat
open Go.RowKit
set_option maxRecDepth 100000
namespace Mst
open aP Vn
theorem Fb{w:World}{base:Nat}{e:TypeId}{size c g n j:Nat}{xs:List Value}{u:Value}(h:w.ownsRow base e size (.slice (some ⟨g,0,none⟩) n c) n xs):(w.setCell ⟨g,j,none⟩ u).ownsRow base e size (.slice (some ⟨g,0,none⟩) n c) n (xs.set j u):=by
 refine⟨by rw[List.length_set];exact h.1,?_⟩
 rcases h.2 with⟨hv,_⟩|⟨g',cap,cur,hv,hb,hg,hn,hm,hs,htk⟩
 ·cases hv
 ·injection hv with h1 h2 h3
  injection h1 with h1
  injection h1 with h1
  subst h1
  subst h3
  refine .inr ⟨g,c,cur.setIfInBounds j u,rfl,hb,Has.put (show Has w g e cur from hg) j u,hn,hm,by simpa using hs,?_⟩
  rw[Array.toList_setIfInBounds,List.take_set,htk]
theorem OM{α:Type}(p:α->Bool)(l:List α)(i:Nat):(iq p l i= -1/\∀x∈l,p x=false)\/∃k x,iq p l i=((i+k:Nat):Int)/\l[k]? =some x/\p x=true:=by
 induction l generalizing i with
 |nil=>exact .inl ⟨rfl,fun _ h=>by cases h⟩
 |cons a l ih=>
  rw[iq]
  cases ha:p a
  ·rw[if_neg (by simp)]
   rcases ih (i+1)with⟨h1,h2⟩|⟨k,x,h1,h2,h3⟩
   ·exact .inl ⟨h1,fun x hx=>by rcases List.mem_cons.1 hx with rfl|hx;exact ha;exact h2 x hx⟩
   ·exact .inr ⟨k+1,x,by rw[h1];congr 1;omega,by simpa using h2,h3⟩
  ·rw[if_pos rfl]
   exact .inr ⟨0,a,rfl,rfl,ha⟩
theorem tC(l:List aZ)(id:Int):fG l id= -1\/∃(k:Nat) (x:aZ),fG l id=(k:Int)/\l[k]? =some x/\x.id=id:=by
 rcases OM (fun x:aZ=>decide (x.id=id)) l 0 with⟨h,_⟩|⟨k,x,h1,h2,h3⟩
 ·exact .inl h
 ·exact .inr ⟨k,x,by simpa [fG]using h1,h2,of_decide_eq_true h3⟩
theorem Eb{p:aZ}:∀(l:List aZ) (k:Nat),k<l.length->aK (l.set k p)=(((aK l).set (k*3) (.int .i64 p.id)).set (k*3+1) (.int .u64 p.at')).set (k*3+2) (.int .i64 p.left)
 |[],k,h=>by simp at h
 |a::l,0,h=>rfl
 |a::l,k+1,h=>by
  have ih:=Eb l k (p:=p) (by simpa using h)
  have e:(k+1)*3=k*3+1+1+1:=by omega
  show Value.int .i64 a.id::Value.int .u64 a.at'::Value.int .i64 a.left::aK (l.set k p)=(((Value.int .i64 a.id::Value.int .u64 a.at'::Value.int .i64 a.left::aK l).set ((k+1)*3) _).set ((k+1)*3+1) _).set ((k+1)*3+2) _
  rw[e,ih]
  rfl
theorem LY(p q:aZ)(W:World):(binOp .neq 79 (yQ p) (yQ q)).run Tryz.prog W=.ok (.bool (decide (p≠q))) W:=by
 obtain⟨p1,p2,p3⟩:=p
 obtain⟨q1,q2,q3⟩:=q
 by_cases h1:p1=q1<;>by_cases h2:p2=q2<;>by_cases h3:p3=q3<;>simp[go_sem,h1,h2,h3]
def jG(l:List aZ)(id:Int):List aZ:=match l[(fG l id).toNat]? with
 |some x=>l.set (fG l id).toNat ⟨id,x.at',8⟩
 |none=>l
def Ap(w:World)(l:List aZ)(id:Int)(e:Ending)(w':World):Prop:=
 (fG l id<0/\e=.returned (.tuple #[.slice none 0 0,.int .i64 7])/\Kept aj w w')\/
 (0<=fG l id/\∃A c,e=.returned (.tuple #[.slice A (jG l id).length c,.int .i64 0])/\aF 79 3 w.heap.size w' A (jG l id).length c (aK (jG l id))/\Kept aj w w')
theorem Gh(w:World)(A:Option Addr)(c:Nat)(l:List aZ)(id:Int)(hl:Src w 3 A l.length (aK l))(hlc:l.length<=c)(hlen:l.length<=1000000):
  Calls Tryz.prog 231 #[.slice A l.length c,.int .i64 id] w (Ap w l id):=by
 have hf:=fun W (hW:Kept aj w W) (b:Nat) (hb:Has W b 3 #[.int .i64 id])=>Jd W A c l b id hb (hl.kept hW (fun _ _ z=>z)) hlen
 have hwh:=Gg w id
 rcases tC l id with h1|⟨k,x,h1,hx,hid⟩
 ·rw[h1]at hf
  have hP:∀w',Kept aj w w'->Ap w l id (.returned (.tuple #[.slice none 0 0,.int .i64 7])) w':=fun w' hk=> .inl ⟨by omega,rfl,hk⟩
  have HF:=ah hf;have HP:=ah hP;have Aq:=ah hwh
  clear hf hP hwh hl h1
  go_enter Tryz.func231,Tryz.ntmps231
  go_wp2_with fail
  refine Aq.out.mono ?_
  rintro e w1 ⟨rfl,rfl⟩
  go_wp2_with fail
  refine(HF.out _ (by(repeat'(first|(with_reducible first|exact ak|apply au|apply ay|apply aA|apply aB)|(right;simp;done)))) w.heap.size (Has.new w 3 #[.int .i64 id])).mono ?_
  rintro e w2 ⟨rfl,hk⟩
  have hk2:=Kept.then (F:=aj) (a:=w) (by(repeat'(first|(with_reducible first|exact ak|apply au|apply ay|apply aA|apply aB)|(right;simp;done)))) hk
  have HK:=ah hk2;clear hk hk2
  go_wp2
  go_ret2
  exact HP.out _ HK.out
 ·rw[h1]at hf
  have hkl:k<l.length:=(List.getElem?_eq_some_iff.1 hx).1
  have hcl:=fun W (hW:Kept aj w W)=>rG W A c l (hl.kept hW (fun _ _ z=>z)) hlen
  obtain⟨ad,rfl,had,x0,x1,x2⟩:=jU hl (by omega) k x hx
  have hxk:=fun W (hW:Kept aj w W)=>jU (hl.kept hW (fun _ _ z=>z)) (by omega) k x hx
  have hP:∀w' A c,aF 79 3 w.heap.size w' A l.length c (aK (l.set k ⟨id,x.at',8⟩))->Kept aj w w'->Ap w l id (.returned (.tuple #[.slice A l.length c,.int .i64 0])) w':=fun w' A c hn hk=>by
   have e1:jG l id=l.set k ⟨id,x.at',8⟩:=by unfold jG;rw[h1,Int.toNat_natCast,hx]
   refine .inr ⟨by omega,A,c,?_,?_,hk⟩
   ·rw[e1,List.length_set]
   ·rw[e1,List.length_set];exact hn
  have HF:=ah hf;have HP:=ah hP;have Aq:=ah hwh;have HC:=ah hcl;have HX:=ah (And.intro hx hid);have HXK:=ah hxk
  clear hf hP hwh hl h1 x0 x1 x2 hcl hx hid hxk
  have b0:(0:Int)<=(k:Int):=by omega
  have b1:(k:Int)<(l.length:Int):=by omega
  go_enter Tryz.func231,Tryz.ntmps231
  go_wp2_with fail
  refine Aq.out.mono ?_
  rintro e w1 ⟨rfl,rfl⟩
  go_wp2_with fail
  refine(HF.out _ (by(repeat'(first|(with_reducible first|exact ak|apply au|apply ay|apply aA|apply aB)|(right;simp;done)))) w.heap.size (Has.new w 3 #[.int .i64 id])).mono ?_
  rintro e w2 ⟨rfl,hk⟩
  have hk2:=Kept.then (F:=aj) (a:=w) (by(repeat'(first|(with_reducible first|exact ak|apply au|apply ay|apply aA|apply aB)|(right;simp;done)))) hk
  have HK:=ah hk2;clear hk hk2
  go_wp2_with fail
  refine(HC.out _ HK.out).mono ?_
  rintro e w3 ⟨A1,c1,rfl,hn,hk⟩
  have hk3:=HK.out.then hk
  obtain⟨ad',e1,had,x0,x1,x2⟩:=HXK.out _ hk3
  injection e1 with e1
  subst e1
  have bf:=ah hk3;clear hk3
  have HS2:=ah HK.out.size;clear HK
  obtain⟨rb,cap,hv,_,hrl⟩:=hn.1.form (by omega)
  injection hv with hA _ hC
  subst hA
  subst hC
  obtain⟨Yi,e2,adz,y0,y1,y2⟩:=jU (Src.bC hn.1) (by omega) k x HX.out.1
  injection e2 with e2
  subst e2
  have hneq:=LY x ⟨id,x.at',8⟩
  obtain⟨t,ht⟩:∃t,decide (x≠⟨id,x.at',8⟩)=t:=⟨_,rfl⟩
  rw[ht]at hneq
  have HT:=ah ht;clear ht
  obtain⟨W4,xu⟩:∃W4,w3.alloc (.cells #[.int .i64 id,.int .u64 x.at',.int .i64 8] 79)=W4:=⟨_,rfl⟩
  have hk4:Kept aj w3 W4:=by rw[<-xu];(repeat'(first|(with_reducible first|exact ak|apply au|apply ay|apply aA|apply aB)|(right;simp;done)))
  obtain⟨adA,e2',abX,y0',y1',y2'⟩:=jU (Src.bC (aC (F:=aj) hn.1 hk4 (fun _ _ z=>z))) (by omega) k x HX.out.1
  injection e2' with e2'
  subst e2'
  have ha:(⟨rb,0,none⟩:Addr).add (k*3)=⟨rb,k*3,none⟩:=by rw[Addr.add_lit,Nat.zero_add]
  rw[ha]at y0' y1' y2'
  dsimp only at y1' y2' abX
  have Ro:Has W4 w3.heap.size 79 #[.int .i64 id,.int .u64 x.at',.int .i64 8]:=by rw[<-xu];exact Has.new _ _ _
  have z0:=Ro.cell 0
  have z1:=Ro.cell 1
  have z2:=Ro.cell 2
  simp only[List.getElem?_toArray,List.getElem?_cons_zero,List.getElem?_cons_succ]at z0 z1 z2
  have hcur:∃cur,Has W4 rb 79 cur:=by
   rcases(aC (F:=aj) hn.1 hk4 (fun _ _ z=>z)).2 with⟨hv,_⟩|⟨g',cap,cur,hv,hb,hg,_⟩
   ·cases hv
   ·injection hv with h1 h2 h3
    injection h1 with h1
    injection h1 with h1
    exact⟨cur,by rw[h1];exact hg⟩
  obtain⟨cur,hcur⟩:=hcur
  have f0:=hcur.frozen (k*3)
  have f1:=hcur.frozen (k*3+1)
  have f2:=hcur.frozen (k*3+2)
  clear hcur
  have HN:=ah hn;clear hn
  have HKK:=ah hk;clear hk
  have HB9:=ah Ro;clear Ro
  have dR:=ah hk4;clear hk4
  go_wp2_with fail
  clear xu
  go_quiet (fail)
  cases t
  ·have hx2:=of_decide_eq_false HT.out
   simp only[ne_eq,Classical.not_not]at hx2
   have hset:l.set k ⟨id,x.at',8⟩=l:=by
    obtain⟨h1,h2⟩:=List.getElem?_eq_some_iff.1 HX.out.1
    rw[<-hx2,<-h2];exact List.set_getElem_self h1
   have HS:=ah hset;clear hset hx2
   go_wp2
   go_ret2
   refine HP.out _ _ _ ?_ ((bf.out.then dR.out).drewN _)
   rw[HS.out]
   exact⟨aC (F:=aj) HN.out.1 (dR.out.drewN _) (fun _ _ z=>z),fun g hg=>by have h1:=HN.out.2 g hg;have h2:=HS2.out;omega⟩
  ·go_wp2
   go_ret2
   refine HP.out _ _ _ ⟨?_,fun g hg=>by have h1:=HN.out.2 g hg;have h2:=HS2.out;omega⟩ ?_
   ·rw[Eb l k hkl]
    exact Fb (Fb (Fb (aC (F:=aj) HN.out.1 (dR.out.drewN _) (fun _ _ z=>z))))
   ·have hnew:∀j u W,Kept aj w W->Kept aj w (W.setCell ⟨rb,j,none⟩ u):=fun j u W hW=>hW.put (by have h1:=HN.out.2 rb rfl;have h2:=HS2.out;omega)
    exact hnew _ _ _ (hnew _ _ _ (hnew _ _ _ ((bf.out.then dR.out).drewN _)))
end Mst
namespace Mst
open aP Vn
theorem xU(w:World)(x:Mem)(b:Nat)(id:Int)(hb:Has w b 3 #[.int .i64 id]):
  Calls Tryz.prog 334 #[iJ x,.pointer (some ⟨b,0,none⟩)] w fun e w'=>e=.returned (.bool (decide (x.1=id)))/\Kept aj w w':=by
 have c0:=(hb.alloc (.cells #[.int .i64 x.1,.int .i64 x.2] 53)).cell 0
 simp only[List.getElem?_toArray,List.getElem?_cons_zero,List.getElem?_cons_succ]at c0
 clear hb
 go_enter Tryz.func334,Tryz.ntmps334
 go_wp2
 go_ret
 exact⟨rfl,by(repeat'(first|(with_reducible first|exact ak|apply au|apply ay|apply aA|apply aB)|(right;simp;done)))⟩
theorem pR(w:World)(ep fl:Int)(A:Option Addr)(c:Nat)(l:List Mem)(id:Int)(hl:Src w 2 A l.length (aS l))(hlen:l.length<=1000000):
  Calls Tryz.prog 229 #[mP ep A l.length c fl,.int .i64 id] w fun e w'=>e=.returned (.bool (dZ l id))/\Kept aj w w':=by
 have h:=fun W b (hW:Kept aj w W) (hb:Has W b 3 #[.int .i64 id])=>yU W A c l 334 (.pointer (some ⟨b,0,none⟩)) (fun x=>decide (x.1=id)) (fun args W=>enters Tryz.func334 (by kernel_rfl) rfl args W) (hl.kept hW (fun _ _ z=>z)) hlen
  (fun W2 x hW2 _=>xU W2 x b id (hb.kept hW2 (fun z=>z)))
 have hr:(l.any fun x=>decide (x.1=id))=dZ l id:=rfl
 rw[hr]at h
 obtain⟨r,hr⟩:∃r,dZ l id=r:=⟨_,rfl⟩
 rw[hr]at h⊢
 have H:=ah h;clear h hr hl
 go_enter Tryz.func229,Tryz.ntmps229
 go_wp2_with fail
 refine(H.out _ (w.heap.size+1) (by(repeat'(first|(with_reducible first|exact ak|apply au|apply ay|apply aA|apply aB)|(right;simp;done)))) (Has.bP _ _ _ (by simp))).mono ?_
 rintro e w2 ⟨rfl,hk⟩
 have hk2:=Kept.then (F:=aj) (a:=w) (by(repeat'(first|(with_reducible first|exact ak|apply au|apply ay|apply aA|apply aB)|(right;simp;done)))) hk
 have HK:=ah hk2;clear hk hk2
 go_wp2
 go_ret
 exact⟨rfl,HK.out⟩
def qU(w:World)(ep fl:Int)(l:List Mem)(e:Ending)(w':World):Prop:=
 ∃A c,e=.returned (mP ep A l.length c fl)/\aF 53 2 w.heap.size w' A l.length c (aS l)/\Kept aj w w'
theorem Fe(w:World)(ep fl:Int)(A:Option Addr)(c:Nat)(l:List Mem)(hl:Src w 2 A l.length (aS l))(hlen:l.length<=1000000):
  Calls Tryz.prog 117 #[mP ep A l.length c fl] w (qU w ep fl l):=by
 have h:=fun W (hW:Kept aj w W)=>Jc W A c l (hl.kept hW (fun _ _ z=>z)) hlen
 have hP:∀w' A c,aF 53 2 w.heap.size w' A l.length c (aS l)->Kept aj w w'->qU w ep fl l (.returned (mP ep A l.length c fl)) w':=fun w' A c h1 h2=>⟨A,c,rfl,h1,h2⟩
 have H:=ah h;have HP:=ah hP;clear h hl hP
 go_enter Tryz.func117,Tryz.ntmps117
 go_wp2_with fail
 refine(H.out _ (by(repeat'(first|(with_reducible first|exact ak|apply au|apply ay|apply aA|apply aB)|(right;simp;done))))).mono ?_
 rintro e w2 ⟨A1,c1,rfl,hn,hk⟩
 have hb1:=((Has.new w 25 #[.int .i64 ep,.slice A l.length c,.int .u64 fl]).alloc (.cells #[.int .i64 0,.slice none 0 0,.int .u64 0] 25)).kept hk (fun z=>z)
 have hb2:=(Has.bP (w.alloc (.cells #[.int .i64 ep,.slice A l.length c,.int .u64 fl] 25)) 25 #[.int .i64 0,.slice none 0 0,.int .u64 0] (g:=w.heap.size+1) (by simp)).kept hk (fun z=>z)
 have hk2:=Kept.then (F:=aj) (a:=w) (by(repeat'(first|(with_reducible first|exact ak|apply au|apply ay|apply aA|apply aB)|(right;simp;done)))) hk
 have c0:=hb1.cell 0
 have c1':=hb1.cell 1
 have c2:=hb1.cell 2
 have f0:=hb1.frozen 1
 have d0:=hb2.cell 0
 have d1:=hb2.cell 1
 have d2:=hb2.cell 2
 have g0:=hb2.frozen 0
 have g1:=hb2.frozen 1
 have g2:=hb2.frozen 2
 simp only[List.getElem?_toArray,List.getElem?_cons_zero,List.getElem?_cons_succ]at c0 c1' c2 d0 d1 d2
 have HK:=ah hk2;have HN:=ah hn
 have HB:=ah (And.intro hb1 hb2)
 clear hk hk2 hn hb1 hb2
 go_wp2
 have hfin:=(((HB.out.2.past (b:=w.heap.size) (i:=1) (u:=Value.slice A1 l.length c1) (by omega)).put 0 (Value.int .i64 ep)).put 1 (Value.slice A1 l.length c1)).put 2 (Value.int .u64 fl)
 refine bodyPost_ret (results_cell_row rfl _ _ (w.heap.size+1) 25 _ (0,0) _ rfl hfin Tryz.underlying25 rfl (by kernel_rfl)) rfl ?_
 have hk9:∀W (j i:Nat) u,Kept aj w W->Kept aj w (W.setCell ⟨w.heap.size+j,i,none⟩ u):=fun W j i u hW=>hW.put (.inr (by omega))
 refine HP.out _ _ _ ⟨?_,fun g hg=>by have h1:=HN.out.2 g hg;have h2:=HK.out.size;simp only[size_alloc]at h1;omega⟩ (hk9 _ 1 _ _ (hk9 _ 1 _ _ (hk9 _ 1 _ _ (hk9 _ 0 _ _ HK.out))))
 refine aC (F:=fun k=>k=w.heap.size\/k=w.heap.size+1) HN.out.1 ((((((Kept.refl _ _).put (.inl (.inl rfl))).put (.inl (.inr rfl))).put (.inl (.inr rfl)))).put (.inl (.inr rfl))) (fun g hg hF=> ?_)
 have h1:=HN.out.2 g hg
 simp only[size_alloc]at h1
 omega
end Mst
namespace Mst
open aP Vn
structure bV where
 ep:Int
 ms:List Mem
 fl:Int
 lg:List Int
 hz:Int
 pins:List aZ
 top:Int
 t0:kJ
 t1:kJ
 t2:kJ
abbrev bZ(s:bV)(mA:Option Addr)(mc:Nat)(lA:Option Addr)(lc:Nat)(pA:Option Addr)(pc:Nat)(made:Bool):Array Value:=
 #[.int .i64 s.ep,.slice mA s.ms.length mc,.int .u64 s.fl,.slice lA s.lg.length lc,.int .u64 s.hz,.slice pA s.pins.length pc,.int .i64 s.top,.int .i64 s.t0.cl,.int .i64 s.t0.req,.int .i64 s.t0.e,.int .i64 s.t0.pin,
  .int .i64 s.t1.cl,.int .i64 s.t1.req,.int .i64 s.t1.e,.int .i64 s.t1.pin,.int .i64 s.t2.cl,.int .i64 s.t2.req,.int .i64 s.t2.e,.int .i64 s.t2.pin,.bool made]
def lF:kJ:=⟨0,0,0,0⟩
def st0:bV:=⟨0,[],0,[],0,[],0,lF,lF,lF⟩
theorem dN(w:World)(b:Nat)(s:bV)(mA:Option Addr)(mc:Nat)(lA:Option Addr)(lc:Nat)(pA:Option Addr)(pc:Nat)(made:Bool)(hb:Has w b 171 (bZ s mA mc lA lc pA pc made)):
  Calls Tryz.prog 116 #[.pointer (some ⟨b,0,none⟩)] w fun e w'=>e=.returned (.bool (!made))/\Kept aj w w':=by
 have c19:=hb.cell 19
 simp only[List.getElem?_toArray,List.getElem?_cons_zero,List.getElem?_cons_succ]at c19
 clear hb
 go_enter Tryz.func116,Tryz.ntmps116
 go_wp2
 go_ret
 exact⟨by simp,by(repeat'(first|(with_reducible first|exact ak|apply au|apply ay|apply aA|apply aB)|(right;simp;done)))⟩
theorem new_any(w:World):Calls Tryz.prog 106 #[] w fun e w'=>e=.returned (.pointer (some ⟨w.heap.size,0,none⟩))/\Has w' w.heap.size 171 (bZ st0 none 0 none 0 none 0 true)/\Kept aj w w':=by
 go_enter Tryz.func106,Tryz.ntmps106
 go_wp2
 go_ret
 exact⟨rfl,Has.new _ _ _,by(repeat'(first|(with_reducible first|exact ak|apply au|apply ay|apply aA|apply aB)|(right;simp;done)))⟩
end Mst
namespace Mst
open aP Vn
def pU(w:World)(b:Nat)(old req:Int)(cs:Array Value)(e:Ending)(w':World):Prop:=
 (req<old/\e=.returned (.int .i64 18)/\Kept aj w w')\/(¬req<old/\e=.returned (.int .i64 0)/\Has w' b 171 cs/\Kept (fun k=>k=b) w w')
theorem VX(w:World)(b:Nat)(s:bV)(mA:Option Addr)(mc:Nat)(lA:Option Addr)(lc:Nat)(pA:Option Addr)(pc:Nat)(req e2 pin:Int)(hb:Has w b 171 (bZ s mA mc lA lc pA pc true)):
  Calls Tryz.prog 137 #[.pointer (some ⟨b,0,none⟩),.agg #[.int .i64 0,.int .i64 req,.int .i64 e2,.int .i64 pin]] w (pU w b s.t0.req req (bZ {s with t0:=⟨0,req,e2,pin⟩} mA mc lA lc pA pc true)):=by
 have hk1:Kept aj w (w.alloc (.cells #[.int .i64 0,.int .i64 req,.int .i64 e2,.int .i64 pin] 73)):=by(repeat'(first|(with_reducible first|exact ak|apply au|apply ay|apply aA|apply aB)|(right;simp;done)))
 have hb1:=hb.kept hk1 (fun z=>z)
 obtain⟨W1,hW1⟩:∃W1,w.alloc (.cells #[.int .i64 0,.int .i64 req,.int .i64 e2,.int .i64 pin] 73)=W1:=⟨_,rfl⟩
 have ha:=Has.new w 73 #[.int .i64 0,.int .i64 req,.int .i64 e2,.int .i64 pin]
 rw[hW1]at ha hb1 hk1
 have c1:=hb1.cell 8
 have a0:=ha.cell 0
 have a1:=ha.cell 1
 have a2:=ha.cell 2
 have a3:=ha.cell 3
 simp only[List.getElem?_toArray,List.getElem?_cons_zero,List.getElem?_cons_succ]at c1 a0 a1 a2 a3
 have f0:=hb1.frozen 7
 have f1:=hb1.frozen (7+1)
 have f2:=hb1.frozen (7+2)
 have f3:=hb1.frozen (7+3)
 have k0:=hb1.cell 7
 have k2:=hb1.cell (7+2)
 have k3:=hb1.cell (7+3)
 simp only[List.getElem?_toArray,List.getElem?_cons_zero,List.getElem?_cons_succ]at k0 k2 k3
 have HB:=ah hb1;have HK:=ah hk1
 clear hb hb1 hk1 ha
 by_cases hr:req<s.t0.req
 ·go_enter Tryz.func137,Tryz.ntmps137
  go_wp2_with fail
  go_quiet (fail)
  go_wp2
  go_ret
  exact .inl ⟨hr,rfl,HK.out.drewN _⟩
 ·go_enter Tryz.func137,Tryz.ntmps137
  go_wp2_with fail
  go_quiet (fail)
  go_wp2_with fail
  refine wp_region_still_tail 7 (by kernel_rfl) (by kernel_rfl) ?_
  simp only[List.take_succ_cons,List.take_zero,List.drop_succ_cons,List.drop_zero]
  change wpStill _ _ (World.drew (W1.drewN _)) _ _ _
  repeat still_step
  refine wpStill_nil ?_
  change wpList _ _ _ _ _ (World.drew (W1.drewN _))
  go_wp2
  go_ret
  refine .inr ⟨by omega,rfl,?_,?_⟩
  ·((repeat (first|with_reducible exact HB.out|with_reducible apply Has.dB|with_reducible apply Has.past|with_reducible apply Has.drewN|with_reducible apply Has.drew|with_reducible apply Has.alloc))<;>first|omega|rfl)
  ·have hm:Kept (fun k=>k=b) w (W1.drewN (nq+1)):=(HK.out.mono (fun _ x=>x.elim)).drewN _
   exact(((hm.put (.inl rfl)).put (.inl rfl)).put (.inl rfl)).put (.inl rfl)
theorem VY(w:World)(b:Nat)(s:bV)(mA:Option Addr)(mc:Nat)(lA:Option Addr)(lc:Nat)(pA:Option Addr)(pc:Nat)(req e2 pin:Int)(hb:Has w b 171 (bZ s mA mc lA lc pA pc true)):
  Calls Tryz.prog 137 #[.pointer (some ⟨b,0,none⟩),.agg #[.int .i64 1,.int .i64 req,.int .i64 e2,.int .i64 pin]] w (pU w b s.t1.req req (bZ {s with t1:=⟨1,req,e2,pin⟩} mA mc lA lc pA pc true)):=by
 have hk1:Kept aj w (w.alloc (.cells #[.int .i64 1,.int .i64 req,.int .i64 e2,.int .i64 pin] 73)):=by(repeat'(first|(with_reducible first|exact ak|apply au|apply ay|apply aA|apply aB)|(right;simp;done)))
 have hb1:=hb.kept hk1 (fun z=>z)
 obtain⟨W1,hW1⟩:∃W1,w.alloc (.cells #[.int .i64 1,.int .i64 req,.int .i64 e2,.int .i64 pin] 73)=W1:=⟨_,rfl⟩
 have ha:=Has.new w 73 #[.int .i64 1,.int .i64 req,.int .i64 e2,.int .i64 pin]
 rw[hW1]at ha hb1 hk1
 have c1:=hb1.cell 12
 have a0:=ha.cell 0
 have a1:=ha.cell 1
 have a2:=ha.cell 2
 have a3:=ha.cell 3
 simp only[List.getElem?_toArray,List.getElem?_cons_zero,List.getElem?_cons_succ]at c1 a0 a1 a2 a3
 have f0:=hb1.frozen 11
 have f1:=hb1.frozen (11+1)
 have f2:=hb1.frozen (11+2)
 have f3:=hb1.frozen (11+3)
 have k0:=hb1.cell 11
 have k2:=hb1.cell (11+2)
 have k3:=hb1.cell (11+3)
 simp only[List.getElem?_toArray,List.getElem?_cons_zero,List.getElem?_cons_succ]at k0 k2 k3
 have HB:=ah hb1;have HK:=ah hk1
 clear hb hb1 hk1 ha
 by_cases hr:req<s.t1.req
 ·go_enter Tryz.func137,Tryz.ntmps137
  go_wp2_with fail
  go_quiet (fail)
  go_wp2
  go_ret
  exact .inl ⟨hr,rfl,HK.out.drewN _⟩
 ·go_enter Tryz.func137,Tryz.ntmps137
  go_wp2_with fail
  go_quiet (fail)
  go_wp2_with fail
  refine wp_region_still_tail 7 (by kernel_rfl) (by kernel_rfl) ?_
  simp only[List.take_succ_cons,List.take_zero,List.drop_succ_cons,List.drop_zero]
  change wpStill _ _ (World.drew (W1.drewN _)) _ _ _
  repeat still_step
  refine wpStill_nil ?_
  change wpList _ _ _ _ _ (World.drew (W1.drewN _))
  go_wp2
  go_ret
  refine .inr ⟨by omega,rfl,?_,?_⟩
  ·((repeat (first|with_reducible exact HB.out|with_reducible apply Has.dB|with_reducible apply Has.past|with_reducible apply Has.drewN|with_reducible apply Has.drew|with_reducible apply Has.alloc))<;>first|omega|rfl)
  ·have hm:Kept (fun k=>k=b) w (W1.drewN (nq+1)):=(HK.out.mono (fun _ x=>x.elim)).drewN _
   exact(((hm.put (.inl rfl)).put (.inl rfl)).put (.inl rfl)).put (.inl rfl)
theorem VZ(w:World)(b:Nat)(s:bV)(mA:Option Addr)(mc:Nat)(lA:Option Addr)(lc:Nat)(pA:Option Addr)(pc:Nat)(req e2 pin:Int)(hb:Has w b 171 (bZ s mA mc lA lc pA pc true)):
  Calls Tryz.prog 137 #[.pointer (some ⟨b,0,none⟩),.agg #[.int .i64 2,.int .i64 req,.int .i64 e2,.int .i64 pin]] w (pU w b s.t2.req req (bZ {s with t2:=⟨2,req,e2,pin⟩} mA mc lA lc pA pc true)):=by
 have hk1:Kept aj w (w.alloc (.cells #[.int .i64 2,.int .i64 req,.int .i64 e2,.int .i64 pin] 73)):=by(repeat'(first|(with_reducible first|exact ak|apply au|apply ay|apply aA|apply aB)|(right;simp;done)))
 have hb1:=hb.kept hk1 (fun z=>z)
 obtain⟨W1,hW1⟩:∃W1,w.alloc (.cells #[.int .i64 2,.int .i64 req,.int .i64 e2,.int .i64 pin] 73)=W1:=⟨_,rfl⟩
 have ha:=Has.new w 73 #[.int .i64 2,.int .i64 req,.int .i64 e2,.int .i64 pin]
 rw[hW1]at ha hb1 hk1
 have c1:=hb1.cell 16
 have a0:=ha.cell 0
 have a1:=ha.cell 1
 have a2:=ha.cell 2
 have a3:=ha.cell 3
 simp only[List.getElem?_toArray,List.getElem?_cons_zero,List.getElem?_cons_succ]at c1 a0 a1 a2 a3
 have f0:=hb1.frozen 15
 have f1:=hb1.frozen (15+1)
 have f2:=hb1.frozen (15+2)
 have f3:=hb1.frozen (15+3)
 have k0:=hb1.cell 15
 have k2:=hb1.cell (15+2)
 have k3:=hb1.cell (15+3)
 simp only[List.getElem?_toArray,List.getElem?_cons_zero,List.getElem?_cons_succ]at k0 k2 k3
 have HB:=ah hb1;have HK:=ah hk1
 clear hb hb1 hk1 ha
 by_cases hr:req<s.t2.req
 ·go_enter Tryz.func137,Tryz.ntmps137
  go_wp2_with fail
  go_quiet (fail)
  go_wp2
  go_ret
  exact .inl ⟨hr,rfl,HK.out.drewN _⟩
 ·go_enter Tryz.func137,Tryz.ntmps137
  go_wp2_with fail
  go_quiet (fail)
  go_wp2_with fail
  refine wp_region_still_tail 7 (by kernel_rfl) (by kernel_rfl) ?_
  simp only[List.take_succ_cons,List.take_zero,List.drop_succ_cons,List.drop_zero]
  change wpStill _ _ (World.drew (W1.drewN _)) _ _ _
  repeat still_step
  refine wpStill_nil ?_
  change wpList _ _ _ _ _ (World.drew (W1.drewN _))
  go_wp2
  go_ret
  refine .inr ⟨by omega,rfl,?_,?_⟩
  ·((repeat (first|with_reducible exact HB.out|with_reducible apply Has.dB|with_reducible apply Has.past|with_reducible apply Has.drewN|with_reducible apply Has.drew|with_reducible apply Has.alloc))<;>first|omega|rfl)
  ·have hm:Kept (fun k=>k=b) w (W1.drewN (nq+1)):=(HK.out.mono (fun _ x=>x.elim)).drewN _
   exact(((hm.put (.inl rfl)).put (.inl rfl)).put (.inl rfl)).put (.inl rfl)
end Mst
namespace Mst
open aP Vn
theorem Fg(w:World)(b:Nat)(s:bV)(mA:Option Addr)(mc:Nat)(lA:Option Addr)(lc:Nat)(pA:Option Addr)(pc:Nat)(hb:Has w b 171 (bZ s mA mc lA lc pA pc true)):Calls Tryz.prog 69 #[.pointer (some ⟨b,0,none⟩)] w fun e w'=>e=.returned (.int .u64 s.hz)/\Kept aj w w':=by
 have h:=fun W (hW:Kept aj w W)=>dN W b s mA mc lA lc pA pc true (hb.kept hW (fun z=>z))
 have hc:=fun W (hW:Kept aj w W)=>(hb.kept hW (fun z=>z)).cell 4
 simp only[List.getElem?_toArray,List.getElem?_cons_zero,List.getElem?_cons_succ]at hc
 have H:=ah h;have HC:=ah hc;clear h hc hb
 go_enter Tryz.func69,Tryz.ntmps69
 go_wp2_with fail
 refine(H.out _ (by(repeat'(first|(with_reducible first|exact ak|apply au|apply ay|apply aA|apply aB)|(right;simp;done))))).mono ?_
 rintro e w2 ⟨rfl,hk⟩
 have c0:=HC.out _ hk
 have HK:=ah hk;clear hk
 go_wp2
 go_ret
 exact⟨rfl,HK.out⟩
theorem OO(w:World)(b:Nat)(s:bV)(mA:Option Addr)(mc:Nat)(lA:Option Addr)(lc:Nat)(pA:Option Addr)(pc:Nat)(hb:Has w b 171 (bZ s mA mc lA lc pA pc true)):Calls Tryz.prog 341 #[.pointer (some ⟨b,0,none⟩)] w fun e w'=>e=.returned (.int .i64 s.top)/\Kept aj w w':=by
 have h:=fun W (hW:Kept aj w W)=>dN W b s mA mc lA lc pA pc true (hb.kept hW (fun z=>z))
 have hc:=fun W (hW:Kept aj w W)=>(hb.kept hW (fun z=>z)).cell 6
 simp only[List.getElem?_toArray,List.getElem?_cons_zero,List.getElem?_cons_succ]at hc
 have H:=ah h;have HC:=ah hc;clear h hc hb
 go_enter Tryz.func341,Tryz.ntmps341
 go_wp2_with fail
 refine(H.out _ (by(repeat'(first|(with_reducible first|exact ak|apply au|apply ay|apply aA|apply aB)|(right;simp;done))))).mono ?_
 rintro e w2 ⟨rfl,hk⟩
 have c0:=HC.out _ hk
 have HK:=ah hk;clear hk
 go_wp2
 go_ret
 exact⟨rfl,HK.out⟩
theorem Je(w:World)(b:Nat)(s:bV)(mA:Option Addr)(mc:Nat)(lA:Option Addr)(lc:Nat)(pA:Option Addr)(pc:Nat)(hb:Has w b 171 (bZ s mA mc lA lc pA pc true))(hl:Src w 1 lA s.lg.length (ints s.lg))(hlen:s.lg.length<=1000000):Calls Tryz.prog 49 #[.pointer (some ⟨b,0,none⟩)] w (Am w s.lg):=by
 have hcl:=fun W (hW:Kept aj w W)=>wB W lA lc s.lg (hl.kept hW (fun _ _ z=>z)) hlen
 have hP:∀W w' A c,Kept aj w W->aF 3 1 W.heap.size w' A s.lg.length c (ints s.lg)->Kept aj W w'->Am w s.lg (.returned (.slice A s.lg.length c)) w':=fun W w' A c hW h1 h2=>⟨A,c,rfl,⟨h1.1,fun k hk=>Nat.le_trans hW.size (h1.2 k hk)⟩,hW.then h2⟩
 have o9:=ah hcl;have HP:=ah hP;clear hcl hl hP
 have h:=fun W (hW:Kept aj w W)=>dN W b s mA mc lA lc pA pc true (hb.kept hW (fun z=>z))
 have hc:=fun W (hW:Kept aj w W)=>(hb.kept hW (fun z=>z)).cell 3
 simp only[List.getElem?_toArray,List.getElem?_cons_zero,List.getElem?_cons_succ]at hc
 have H:=ah h;have HC:=ah hc;clear h hc hb
 go_enter Tryz.func49,Tryz.ntmps49
 go_wp2_with fail
 refine(H.out _ (by(repeat'(first|(with_reducible first|exact ak|apply au|apply ay|apply aA|apply aB)|(right;simp;done))))).mono ?_
 rintro e w2 ⟨rfl,hk⟩
 have c0:=HC.out _ hk
 have HK:=ah hk;clear hk
 go_wp2_with fail
 refine(o9.out _ HK.out).mono ?_
 rintro e w3 ⟨A3,c3,rfl,hn,hk⟩
 have HN:=ah (And.intro hn hk);clear hn hk
 go_wp2
 go_ret
 exact HP.out _ _ _ _ HK.out HN.out.1 HN.out.2
theorem LZ(w:World)(b:Nat)(s:bV)(mA:Option Addr)(mc:Nat)(lA:Option Addr)(lc:Nat)(pA:Option Addr)(pc:Nat)(hb:Has w b 171 (bZ s mA mc lA lc pA pc true))(hl:Src w 3 pA s.pins.length (aK s.pins))(hlen:s.pins.length<=1000000):Calls Tryz.prog 55 #[.pointer (some ⟨b,0,none⟩)] w (wC w s.pins):=by
 have hcl:=fun W (hW:Kept aj w W)=>rG W pA pc s.pins (hl.kept hW (fun _ _ z=>z)) hlen
 have hP:∀W w' A c,Kept aj w W->aF 79 3 W.heap.size w' A s.pins.length c (aK s.pins)->Kept aj W w'->wC w s.pins (.returned (.slice A s.pins.length c)) w':=fun W w' A c hW h1 h2=>⟨A,c,rfl,⟨h1.1,fun k hk=>Nat.le_trans hW.size (h1.2 k hk)⟩,hW.then h2⟩
 have o9:=ah hcl;have HP:=ah hP;clear hcl hl hP
 have h:=fun W (hW:Kept aj w W)=>dN W b s mA mc lA lc pA pc true (hb.kept hW (fun z=>z))
 have hc:=fun W (hW:Kept aj w W)=>(hb.kept hW (fun z=>z)).cell 5
 simp only[List.getElem?_toArray,List.getElem?_cons_zero,List.getElem?_cons_succ]at hc
 have H:=ah h;have HC:=ah hc;clear h hc hb
 go_enter Tryz.func55,Tryz.ntmps55
 go_wp2_with fail
 refine(H.out _ (by(repeat'(first|(with_reducible first|exact ak|apply au|apply ay|apply aA|apply aB)|(right;simp;done))))).mono ?_
 rintro e w2 ⟨rfl,hk⟩
 have c0:=HC.out _ hk
 have HK:=ah hk;clear hk
 go_wp2_with fail
 refine(o9.out _ HK.out).mono ?_
 rintro e w3 ⟨A3,c3,rfl,hn,hk⟩
 have HN:=ah (And.intro hn hk);clear hn hk
 go_wp2
 go_ret
 exact HP.out _ _ _ _ HK.out HN.out.1 HN.out.2
end Mst
end Go.Proofs.YtolkgbafebehfaaGreat

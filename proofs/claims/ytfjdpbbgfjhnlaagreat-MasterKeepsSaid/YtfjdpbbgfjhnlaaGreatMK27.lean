/- Part 28 of what the proof needs. -/
import Derived.Test.YtfjdpbbgfjhnlaaGreatMK26
set_option linter.unusedSimpArgs false
set_option linter.unusedVariables false
set_option maxHeartbeats 32000000
set_option maxRecDepth 100000
namespace Go.Proofs.YtfjdpbbgfjhnlaaGreat
open Go.RowKit
set_option maxRecDepth 100000
namespace dH
open aO Vn Mst lV IM mY gZ
def vS(s:bQ)(A:Option Addr)(c:Nat):bF:=⟨1,0,0,0,false,s.hz,0,0,0,0,0,⟨#[]⟩,⟨#[]⟩,s.ep,A,c,s.ms,s.fl,0,0,none,0,[],none,0,[],none,0,[],none,0,[]⟩
structure SU(s:bQ):Prop where
 hz:0<=s.hz/\s.hz<=aT
 fl:0<=s.fl/\s.fl<=aT
 pin:∀p∈s.pins,0<=p.at'/\p.at'<=aT
theorem UY{w:World}{s:bQ}{A:Option Addr}{c:Nat}(hs:Src w 2 A s.ms.length (aP s.ms))(hc:s.ms.length<=c)(hok:nZ s)(hu:SU s):iZ w (vS s A c):=
 ⟨hs,hc,hok.m,Src.nil _ _ _,Src.nil _ _ _,(fun y hy=>by cases hy),Nat.zero_le _,Src.nil _ _ _,Nat.zero_le _,(fun y hy=>by cases hy),Src.nil _ _ _,Nat.zero_le _,⟨hu.hz,⟨Int.le_refl 0,by show(0:Int)<=aT;decide⟩,hu.fl⟩⟩
def jU(M:MR)(to:Int):MR:=iU M to (vS M.st none 0)
section
variable{w w':World}{X X0:MX}{M M0:MR}{c:Nat}
theorem EK(h:dD w X M)(hb:dw X M.lg c)(ho:M.out.length<=1000)(hok:nZ M.st)(hu:SU M.st)(to:Int):
  Calls Tryz.prog 50 #[.pointer (some ⟨X.mb,0,none⟩),.int .i64 to] w (dF w X M c (.tuple #[]) (jU M to) 0):=by
 have hq:∀W,Kept aj w W->W.cell? ⟨X.mb,2,none⟩=some (.pointer (some ⟨X.sb,0,none⟩)):=fun W hW=>Has.cell ((h.quiet hW).c 0) 2
 have oz:∀W,Kept aj w W->Calls Tryz.prog 39 #[.pointer (some ⟨X.sb,0,none⟩)] W (rG W M.st.ep M.st.fl M.st.ms):=fun W hW=>pN ((h.quiet hW).c 2) hok
 have yV:∀W,Kept aj w W->Calls Tryz.prog 29 #[.pointer (some ⟨X.sb,0,none⟩)] W fun e w'=>e=.returned (.int .u64 M.st.hz)/\Kept aj W w':=fun W hW=>uH ((h.quiet hW).c 2)
 have hsend:∀W A d,Kept aj w W->Src W 2 A M.st.ms.length (aP M.st.ms)->M.st.ms.length<=d->Calls Tryz.prog 100 #[.pointer (some ⟨X.mb,0,none⟩),.int .i64 to,gK (vS M.st A d)] W fun e w'=>dF w X M c (.tuple #[]) (jU M to) 0 e w':=fun W A d hW hs hd=>by
  refine(Pg (h.quiet hW) hb ho to (vS M.st A d) (UY hs hd hok hu)).mono ?_
  rintro e w' ⟨rfl,X',hs,hl⟩
  exact⟨rfl,X',(Step.refl h hW).trans hs,hl⟩
 have hpost:∀e W,dF w X M c (.tuple #[]) (jU M to) 0 e W->e=.returned (.tuple #[])/\W.cell? ⟨X.mb,2,none⟩=some (.pointer (some ⟨X.sb,0,none⟩))\/True:=fun e W _=> .inr trivial
 have HQ:=ah hq;have HC:=ah oz;have HH:=ah yV
 have yU:=ah hsend
 clear hq oz yV hsend hpost h hb ho hok hu
 obtain⟨MM,hMM⟩:∃MM,jU M to=MM:=⟨_,rfl⟩
 rw[hMM]at yU⊢
 clear hMM
 have hs1:∀W A d,Kept aj w W->Src W 2 A M.st.ms.length (aP M.st.ms)->M.st.ms.length<=d->Calls Tryz.prog 100 #[.pointer (some ⟨X.mb,0,none⟩),.int .i64 to,.agg (aI (vS M.st A d)).toArray] W fun e w'=>dF w X M c (.tuple #[]) MM 0 e w':=yU.out
 simp only[vS,aI,List.length_nil]at hs1
 have HS:=ah hs1;clear hs1 yU
 obtain⟨ms,hms⟩:∃ms,M.st.ms=ms:=⟨_,rfl⟩
 obtain⟨hz,hhz⟩:∃hz,M.st.hz=hz:=⟨_,rfl⟩
 obtain⟨ep,lS⟩:∃ep,M.st.ep=ep:=⟨_,rfl⟩
 obtain⟨fl,hfl⟩:∃fl,M.st.fl=fl:=⟨_,rfl⟩
 rw[hms,lS,hfl]at HC
 rw[hhz]at HH
 rw[hms,hhz,lS,hfl]at HS
 clear hms hhz lS hfl
 have z0:=HQ.out w (Kept.refl _ _)
 go_enter Tryz.func50,Tryz.ntmps50
 go_wp2_with fail
 go_region_held3 (fun W=>W.cell? ⟨X.mb,2,none⟩=some (.pointer (some ⟨X.sb,0,none⟩))) (first|with_reducible exact z3|with_reducible exact z2|with_reducible exact z1|with_reducible exact z0|(simp[go_sem,z0];done))
  (first
   |(have hx:=fF;clear hx;go_at_call 29;refine(HH.out _ (by(repeat'(first|(with_reducible first|exact ak|apply au|apply ay|apply aA|apply aB)|(exact fF.out)|(right;simp;done))))).mono ?_;rintro e w2 ⟨rfl,hk2⟩;have hk:=Kept.then (F:=aj) (a:=w) (by(repeat'(first|(with_reducible first|exact ak|apply au|apply ay|apply aA|apply aB)|(exact fF.out)|(right;simp;done)))) hk2;have z2:=HQ.out _ hk;have HR2:=ah (aF.kept (aF.kept HR.out (by(repeat'(first|(with_reducible first|exact ak|apply au|apply ay|apply aA|apply aB)|(right;simp;done))))) hk2);have aW:=ah hk;clear hk hk2)
   |(go_at_call 39;refine(HC.out _ (by(repeat'(first|(with_reducible first|exact ak|apply au|apply ay|apply aA|apply aB)|(right;simp;done))))).mono ?_;rintro e w1 ⟨A,d,rfl,hr,hk1⟩;have hk:=Kept.then (F:=aj) (a:=w) (by(repeat'(first|(with_reducible first|exact ak|apply au|apply ay|apply aA|apply aB)|(right;simp;done)))) hk1;have z1:=HQ.out _ hk;have HR:=ah hr;have fF:=ah hk;clear hk hk1 hr)
   |(go_at_call 100;refine(HS.out _ A d (by(repeat'(first|(with_reducible first|exact ak|apply au|apply ay|apply aA|apply aB)|(exact aW.out)|(right;simp;done)))) (Src.bC (aC HR2.out.1 (F:=aj) (by(repeat'(first|(with_reducible first|exact ak|apply au|apply ay|apply aA|apply aB)|(right;simp;done)))) (fun _ _ z=>z))) (fV HR2.out.1).1).mono ?_;rintro e w3 ⟨rfl,X',hst,hl⟩;have z3:w3.cell? ⟨X.mb,2,none⟩=some (.pointer (some ⟨X.sb,0,none⟩)):=(by have h1:w3.cell? ⟨X'.mb,2,none⟩=some (.pointer (some ⟨X'.sb,0,none⟩)):=Has.cell (hst.at'.c 0) 2;rw[hst.mb,hst.sb]at h1;exact h1);have HP:=ah (And.intro hst hl);clear hst hl))
 clear z0 z1 z2 z3
 go_end0
 exact⟨rfl,X',HP.out.1,HP.out.2⟩
end
end dH
namespace Mst
open aO Vn Go.Sort
theorem qX:Elem Tryz.prog 120 83 18 192:=by
 obtain⟨i0,hi,hz0,hz1,hz2⟩:=info_parts (show(Tryz.prog.info? 83).map (fun i=>(i.zero,i.size,i.bytes))=some (some (.agg #[.int .i64 0,.int .i64 0,.int .u64 0,.int .i64 0,.slice none 0 0,.int .u64 0,.slice none 0 0,.int .i64 0,.int .i64 0,.slice none 0 0,.int .u64 0,.int .i64 0,.int .u64 0,.int .i64 0,.int .i64 0,.int .i64 0,.int .i64 0,.int .i64 0]),18,192) by kernel_rfl)
 exact⟨Tryz.underlying120,⟨i0,_,hi,hz0,hz1,hz2,rfl⟩,by decide⟩
theorem pZ(x:aG):∀u∈aJ x,u.oneCell'=true:=by
 intro u hu
 simp[aJ]at hu
 rcases hu with rfl|rfl|rfl|rfl|rfl|rfl|rfl|rfl|rfl|rfl|rfl|rfl|rfl|rfl|rfl|rfl|rfl|rfl<;>rfl
theorem Ro(l:List aG)(x:aG):wQ (l++[x])=wQ l++aJ x:=by simp[wQ]
def zn:aG:=⟨0,0,0,0,none,0,[],0,none,0,[],none,0,⟨0,0,[]⟩,0,⟨0,0,0⟩,⟨0,0,0,0⟩⟩
def lY(s:bQ)(A:Option Addr)(c:Nat)(B:Option Addr)(d:Nat):aG:={zn with k:=1,ep:=s.ep,mA:=A,mc:=c,ms:=s.ms,fl:=s.fl,lA:=B,lc:=d,lg:=s.lg}
def gI(p:aY):aG:={zn with k:=6,pin:=p}
def wu(n:Int):aG:={zn with k:=7,n:=n}
def dV(h:Int):aG:={zn with k:=4,at':=h}
def lZ(a:jK):aG:={zn with k:=8,said:=a}
def jI(s:bQ):List aG:=if s.pins.any (fun p=>decide (p.id=s.top))=true then []else [wu s.top]
def iL(s:bQ):List jK:=[s.t0,s.t1,s.t2]
def dI(l:List jK):List aG:=(l.filter fun a=>decide (a≠jD)).map lZ
def xR(w:World)(s:bQ)(pre:List aG):Prop:=(pre=[]/\¬0<s.ep)\/(0<s.ep/\∃A c B d,pre=[lY s A c B d]/\w.ownsRow 0 65 2 (.slice A s.ms.length c) s.ms.length (aP s.ms)/\w.ownsRow 0 3 1 (.slice B s.lg.length d) s.lg.length (ints s.lg))
theorem xR.row{w w':World}{s:bQ}{pre:List aG}{v:Value}{n:Nat}{xs:List Value}(h:xR w s pre)(ho:w.ownsRow 0 83 18 v n xs)(hk:Kept (RowOf v) w w'):xR w' s pre:=by
 rcases h with h|⟨h0,A,c,B,d,h1,h2,h3⟩
 ·exact .inl h
 ·refine .inr ⟨h0,A,c,B,d,h1,aC h2 hk (fun g hg hr=> ?_),aC h3 hk (fun g hg hr=> ?_)⟩
  ·obtain⟨cs,hh⟩:=jC ho hr
   exact own_ne h2 hh (by decide) hg
  ·obtain⟨cs,hh⟩:=jC ho hr
   exact own_ne h3 hh (by decide) hg
structure kG(w0:World)(s:bQ)(w:World)(pre l:List aG)(A:Option Addr)(c:Nat):Prop where
 own:w.ownsRow 0 83 18 (.slice A l.length c) l.length (wQ l)
 new:∀k,RowOf (.slice A l.length c) k->w0.heap.size<=k
 pre:xR w s pre
 kept:Kept aj w0 w
theorem kG.still{w0 w w':World}{s:bQ}{pre l:List aG}{A:Option Addr}{c:Nat}(h:kG w0 s w pre l A c)(hk:Kept aj w w'):kG w0 s w' pre l A c:=
 ⟨aC h.own hk (fun _ _ z=>z),h.new,h.pre.row h.own (Kept.up hk),h.kept.then hk⟩
theorem kG.push{w0 w W w':World}{s:bQ}{pre l:List aG}{A A1:Option Addr}{c c1:Nat}(x:aG)(h:kG w0 s w pre l A c)(hW:Kept aj w W)
  (ho:w'.ownsRow 0 83 18 (.slice A1 (l.length+1) c1) (l.length+1) (wQ l++aJ x)) (hg:W.grownBy w' (Value.slice A l.length c).ownBlock)
  (ha:(Value.slice A1 (l.length+1) c1).ownBlock=(Value.slice A l.length c).ownBlock\/(Value.slice A1 (l.length+1) c1).ownBlock=some W.heap.size):kG w0 s w' pre (l++[x]) A1 c1:=by
 have h2:=h.still hW
 refine⟨?_,?_,?_,?_⟩
 ·rw[Ro,List.length_append];exact ho
 ·intro k hk
  rw[List.length_append]at hk
  rcases ha with e|e
  ·exact h.new k (e.symm.trans hk)
  ·have h9:=e.symm.trans hk
   injection h9 with h9
   have:=h2.kept.size
   omega
 ·exact h2.pre.row h2.own (Kept.grown (Kept.refl _ _) hg (fun k hk=> .inl hk))
 ·exact h2.kept.grown hg (fun k hk=> .inr (h2.new k hk))
theorem UZ(w:World)(p:aY)(g b:Nat)(s:bQ)(mA:Option Addr)(mc:Nat)(lA:Option Addr)(lc:Nat)(pA:Option Addr)(pc:Nat)(hg:Has w g 84 #[.pointer (some ⟨b,0,none⟩)])(hb:Has w b 124 (dG s mA mc lA lc pA pc true)):
  Calls Tryz.prog 130 #[BK p,.pointer (some ⟨g,0,none⟩)] w fun e w'=>e=.returned (.bool (decide (p.id=s.top)))/\Kept aj w w':=by
 obtain⟨p1,p2,p3⟩:=p
 obtain⟨W0,hW0⟩:∃W0,w.alloc (.cells #[.int .i64 p1,.int .u64 p2,.int .i64 p3] 53)=W0:=⟨_,rfl⟩
 have hk0:Kept aj w W0:=by rw[<-hW0];(repeat'(first|(with_reducible first|exact ak|apply au|apply ay|apply aA|apply aB)|(right;simp;done)))
 have hn0:Has W0 w.heap.size 53 #[.int .i64 p1,.int .u64 p2,.int .i64 p3]:=by rw[<-hW0];exact Has.new _ _ _
 have c0:W0.cell? ⟨w.heap.size,0,none⟩=some (.int .i64 p1):=hn0.cell 0
 have c1:W0.cell? ⟨g,0,none⟩=some (.pointer (some ⟨b,0,none⟩)):=(hg.kept hk0 (fun z=>z)).cell 0
 have c6:W0.cell? ⟨b,6,none⟩=some (.int .i64 s.top):=(hb.kept hk0 (fun z=>z)).cell 6
 have bf:=ah hk0
 clear hn0 hg hb hk0
 go_enter Tryz.func130,Tryz.ntmps130
 go_wp2_with fail
 clear hW0
 go_quiet (fail)
 go_wp2
 go_ret
 exact⟨rfl,bf.out.drewN _⟩
end Mst
namespace Mst
open aO Vn Go.Sort
def runN(s:bQ)(l:List aG):bQ:=l.foldl aZ s
def oO:bQ->List aG->Prop
 |_,[]=>True
 |s,x::l=>bu s x=0/\oO (aZ s x) l
theorem pP{a b:List aG}:∀{s:bQ},oO s a->oO (runN s a) b->oO s (a++b):=by
 induction a with
 |nil=>intro s _ h;exact h
 |cons x a ih=>intro s h1 h2;exact⟨h1.1,ih h1.2 h2⟩
theorem ng(s:bQ)(a b:List aG):runN s (a++b)=runN (runN s a) b:=by simp[runN]
def gu(l:List aY):Int:=(l.getLast?.map (·.id)).getD 0
theorem Am(l:List aY)(p:aY):gu (l++[p])=p.id:=by simp[gu]
theorem GY{l:List aY}{id:Int}(h:∀p∈l,p.id≠id):dJ l id<0:=by
 rcases oH l id with h1|⟨k,x,_,h2,h3⟩
 ·omega
 ·exact absurd h3 (h x (List.mem_of_getElem? h2))
theorem EL(l:List aY):(l=[]/\gu l=0)\/∃p∈l,gu l=p.id:=by
 rcases List.eq_nil_or_concat l with rfl|⟨a,p,rfl⟩
 ·exact .inl ⟨rfl,rfl⟩
 ·rw[List.concat_eq_append];exact .inr ⟨p,by simp,Am a p⟩
theorem YM{l:List aY}(h:l.Pairwise (fun a b=>a.id<b.id)):∀p∈l,p.id<=gu l:=by
 rcases List.eq_nil_or_concat l with rfl|⟨a,q,rfl⟩
 ·intro p hp;cases hp
 ·rw[List.concat_eq_append]at h⊢
  intro p hp
  rw[Am]
  rcases List.mem_append.1 hp with h1|h1
  ·have:=(List.pairwise_append.1 h).2.2 p h1 q (by simp)
   omega
  ·obtain rfl:p=q:=by simpa using h1
   exact Int.le_refl _
theorem U0{x:Int}(h:0<=x/\x<=1073741824):gW [x]=0:=by
 refine wW.2 (fun y hy=> ?_)
 obtain rfl:y=x:=by simpa using hy
 exact h
theorem Ph(b:bQ)(hb:b.hz=0):∀(rest done:List aY),(done++rest).length<=3->(done++rest).Pairwise (fun a b=>a.id<b.id)->(∀p∈done++rest,1<=p.id/\p.id<=1073741824/\p.left=8/\0<=p.at')->
  oO {b with pins:=done,top:=gu done} (rest.map gI)/\runN {b with pins:=done,top:=gu done} (rest.map gI)={b with pins:=done++rest,top:=gu (done++rest)}
 |[],done,_,_,_=>⟨trivial,by rw[List.append_nil];rfl⟩
 |p::rest,done,hlen,hr,hp=>by
  have hpp:=hp p (by simp)
  have hlt:∀q∈done,q.id<p.id:=fun q hq=>(List.pairwise_append.1 hr).2.2 q hq p (by simp)
  have hno:dJ done p.id<0:=GY (fun q hq e=>by have:=hlt q hq;omega)
  have hlast:gu done<p.id:=by
   rcases EL done with⟨_,e⟩|⟨q,hq,e⟩
   ·rw[e];omega
   ·rw[e];exact hlt q hq
  have hl3:done.length<3:=by simp at hlen;omega
  have hk:(gI p).k=6:=rfl
  have hne:aQ (gI p)=0:=by
   unfold aQ
   rw[if_neg (by omega),if_neg (by omega),if_neg (by omega),if_pos hk]
   refine wW.2 (fun y hy=> ?_)
   have:y=p.id\/y=p.left:=by simpa [gI]using hy
   rcases this with rfl|rfl<;>omega
  have hpe:pJ {b with pins:=done,top:=gu done} p=0:=by
   unfold pJ
   rw[if_neg (by show¬0<=dJ done p.id;omega),if_neg (by show¬3<=done.length;omega),if_neg (by show¬p.id<=gu done;omega),if_neg (by show¬p.at'<b.hz;rw[hb];omega)]
  have hE:bu {b with pins:=done,top:=gu done} (gI p)=0:=by
   unfold bu
   rw[if_neg (by rw[hne];decide),if_neg (by omega),if_neg (by omega),if_neg (by omega),if_pos hk]
   exact hpe
  have hS:aZ {b with pins:=done,top:=gu done} (gI p)={b with pins:=done++[p],top:=gu (done++[p])}:=by
   unfold aZ
   rw[if_neg (by rw[hE];decide),if_neg (by omega),if_neg (by omega),if_neg (by omega),if_pos hk]
   unfold jW
   have e:(⟨p.id,p.at',8⟩:aY)=p:=by rw[<-hpp.2.2.1]
   rw[if_neg (by show¬0<=dJ done p.id;omega),Am]
   show{b with pins:=done++[(⟨p.id,p.at',8⟩:aY)],top:=p.id}=_
   rw[e]
  have ih:=Ph b hb rest (done++[p]) (by simpa using hlen) (by simpa using hr) (by simpa using hp)
  rw[List.append_assoc]at ih
  refine⟨⟨hE,?_⟩,?_⟩
  ·rw[hS];exact ih.1
  ·show runN (aZ _ (gI p)) (rest.map gI)=_
   rw[hS];exact ih.2
theorem abz{l:List aY}{id:Int}(h:∀p∈l,p.id≠id):freed l id=l:=by unfold freed;rw[if_pos (GY h)]
theorem GZ(b:bQ)(a:jK)(h:saidE a=0)(hr:(toldOf b a.cl).req=0):bu b (lZ a)=0/\aZ b (lZ a)=kF b a:=by
 have hk:(lZ a).k=8:=rfl
 have hne:aQ (lZ a)=0:=by
  unfold aQ
  rw[if_neg (by omega),if_neg (by omega),if_neg (by omega),if_neg (by omega),if_pos hk]
  exact h
 have aic:0<=a.req:=by
  unfold saidE at h
  split at h
  ·omega
  ·split at h
   ·rename_i h2;exact absurd h h2
   ·rename_i h2
    exact(wW.1 (Classical.not_not.1 h2) a.req (by simp)).1
 have hE:bu b (lZ a)=0:=by
  unfold bu
  rw[if_neg (by rw[hne];decide),if_neg (by omega),if_neg (by omega),if_neg (by omega),if_neg (by omega),if_neg (by omega),if_pos hk]
  rw[if_neg (by show¬a.req<(toldOf b a.cl).req;rw[hr];omega)]
 refine⟨hE,?_⟩
 unfold aZ
 rw[if_neg (by rw[hE];decide),if_neg (by omega),if_neg (by omega),if_neg (by omega),if_neg (by omega),if_neg (by omega)]
 rfl
theorem YN(b:bQ)(s:bQ)(h:Inv s)(h0:b.t0=jD)(h1:b.t1=jD)(h2:b.t2=jD):oO b (dI (iL s))/\runN b (dI (iL s))={b with t0:=s.t0,t1:=s.t1,t2:=s.t2}:=by
 have e:dI (iL s)=dI [s.t0]++(dI [s.t1]++dI [s.t2]):=by
  unfold dI iL
  rw[show [s.t0,s.t1,s.t2]=[s.t0]++([s.t1]++[s.t2])from rfl,List.filter_append,List.filter_append,List.map_append,List.map_append]
 have one:∀a:jK,dI [a]=if a=jD then []else [lZ a]:=fun a=>by
  unfold dI
  by_cases ha:a=jD
  ·rw[if_pos ha,ha];rfl
  ·rw[if_neg ha,List.filter_cons,if_pos (by simpa using ha)];rfl
 have r0:oO b (dI [s.t0])/\runN b (dI [s.t0])={b with t0:=s.t0}:=by
  rw[one]
  by_cases ha:s.t0=jD
  ·rw[if_pos ha,ha,<-h0];exact⟨trivial,rfl⟩
  ·rw[if_neg ha]
   rcases h.a0 with hx|⟨hx,hc⟩
   ·exact absurd hx ha
   ·obtain⟨q1,q2⟩:=GZ b s.t0 hx (by rw[hc,toldOf,if_pos rfl,h0];rfl)
    refine⟨⟨q1,trivial⟩,?_⟩
    show aZ b (lZ s.t0)=_
    rw[q2,kF,if_pos hc]
 have r1:oO {b with t0:=s.t0} (dI [s.t1])/\runN {b with t0:=s.t0} (dI [s.t1])={b with t0:=s.t0,t1:=s.t1}:=by
  rw[one]
  by_cases ha:s.t1=jD
  ·rw[if_pos ha,ha,<-h1];exact⟨trivial,rfl⟩
  ·rw[if_neg ha]
   rcases h.a1 with hx|⟨hx,hc⟩
   ·exact absurd hx ha
   ·obtain⟨q1,q2⟩:=GZ {b with t0:=s.t0} s.t1 hx (by rw[hc,toldOf,if_neg (by decide),if_pos rfl];show b.t1.req=0;rw[h1];rfl)
    refine⟨⟨q1,trivial⟩,?_⟩
    show aZ _ (lZ s.t1)=_
    rw[q2,kF,if_neg (by omega),if_pos hc]
 have r2:oO {b with t0:=s.t0,t1:=s.t1} (dI [s.t2])/\runN {b with t0:=s.t0,t1:=s.t1} (dI [s.t2])={b with t0:=s.t0,t1:=s.t1,t2:=s.t2}:=by
  rw[one]
  by_cases ha:s.t2=jD
  ·rw[if_pos ha,ha,<-h2];exact⟨trivial,rfl⟩
  ·rw[if_neg ha]
   rcases h.a2 with hx|⟨hx,hc⟩
   ·exact absurd hx ha
   ·obtain⟨q1,q2⟩:=GZ {b with t0:=s.t0,t1:=s.t1} s.t2 hx (by rw[hc,toldOf,if_neg (by decide),if_neg (by decide)];show b.t2.req=0;rw[h2];rfl)
    refine⟨⟨q1,trivial⟩,?_⟩
    show aZ _ (lZ s.t2)=_
    rw[q2,kF,if_neg (by omega),if_neg (by omega)]
 rw[e]
 refine⟨pP r0.1 ?_,?_⟩
 ·rw[r0.2]
  refine pP r1.1 ?_
  rw[r1.2]
  exact r2.1
 ·rw[ng,r0.2,ng,r1.2,r2.2]
end Mst
end Go.Proofs.YtfjdpbbgfjhnlaaGreat

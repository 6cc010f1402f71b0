/- Part 25. -/
import Derived.Test.YtomccaocggplgaaGreatMP23
set_option linter.unusedSimpArgs false
set_option linter.unusedVariables false
set_option maxHeartbeats 32000000
set_option maxRecDepth 100000
namespace Go.Proofs.YtomccaocggplgaaGreat
open Go.RowKit
namespace Mst
open aJ Vn Go.Sort
def runN(s:bQ)(l:List aG):bQ:=l.foldl aP s
def o9:bQ->List aG->Prop
 |_,[]=>True
 |s,x::l=>bn s x=0/\o9 (aP s x) l
theorem pU{a b:List aG}:∀{s:bQ},o9 s a->o9 (runN s a) b->o9 s (a++b):=by
 induction a with
 |nil=>intro s _ h;exact h
 |cons x a ih=>intro s h1 h2;exact⟨h1.1,ih h1.2 h2⟩
theorem nS(s:bQ)(a b:List aG):runN s (a++b)=runN (runN s a) b:=by simp[runN]
def iq(l:List aO):Int:=(l.getLast?.map (·.id)).getD 0
theorem Bg(l:List aO)(p:aO):iq (l++[p])=p.id:=by simp[iq]
theorem Du{l:List aO}{id:Int}(h:∀p∈l,p.id≠id):bV l id<0:=by
 rcases jE l id with h1|⟨k,x,_,h2,h3⟩
 ·omega
 ·exact absurd h3 (h x (lC0 h2))
theorem E4(l:List aO):(l=[]/\iq l=0)\/∃p∈l,iq l=p.id:=by
 rcases List.eq_nil_or_concat l with rfl|⟨a,p,rfl⟩
 ·exact .inl ⟨rfl,rfl⟩
 ·rw[List.concat_eq_append];exact .inr ⟨p,by simp,Bg a p⟩
theorem Zl{l:List aO}(h:l.Pairwise (fun a b=>a.id<b.id)):∀p∈l,p.id<=iq l:=by
 rcases List.eq_nil_or_concat l with rfl|⟨a,q,rfl⟩
 ·intro p hp;cases hp
 ·rw[List.concat_eq_append]at h⊢;intro p hp;rw[Bg];rcases List.mem_append.1 hp with h1|h1
  ·have:=(List.pairwise_append.1 h).2.2 p h1 q (by simp);omega
  ·obtain rfl:p=q:=by simpa using h1
   exact Int.le_refl _
theorem VE{x:Int}(h:0<=x/\x<=1073741824):iG [x]=0:=by
 refine uH.2 (fun y hy=> ?_);obtain rfl:y=x:=by simpa using hy
 exact h
theorem P9(b:bQ)(hb:b.hz=0):∀(rest done:List aO),(done++rest).length<=3->(done++rest).Pairwise (fun a b=>a.id<b.id)->(∀p∈done++rest,1<=p.id/\p.id<=1073741824/\p.left=8/\0<=p.at')->
  o9 {b with pins:=done,top:=iq done} (rest.map iD)/\runN {b with pins:=done,top:=iq done} (rest.map iD)={b with pins:=done++rest,top:=iq (done++rest)}
 |[],done,_,_,_=>⟨trivial,by rw[List.append_nil];rfl⟩
 |p::rest,done,hlen,hr,hp=>by
  have hpp:=hp p (by simp);have hlt:∀q∈done,q.id<p.id:=fun q hq=>(List.pairwise_append.1 hr).2.2 q hq p (by simp);have hno:bV done p.id<0:=Du (fun q hq e=>by have:=hlt q hq;omega);have hlast:iq done<p.id:=by
   rcases E4 done with⟨_,e⟩|⟨q,hq,e⟩
   ·rw[e];omega
   ·rw[e];exact hlt q hq
  have hl3:done.length<3:=by simp at hlen;omega
  have hk:(iD p).k=6:=rfl;have hne:aT (iD p)=0:=by
   unfold aT;rw[if_neg (by omega),if_neg (by omega),if_neg (by omega),if_pos hk];refine uH.2 (fun y hy=> ?_);have:y=p.id\/y=p.left:=by simpa [iD]using hy
   rcases this with rfl|rfl<;>omega
  have hpe:oC {b with pins:=done,top:=iq done} p=0:=by unfold oC;rw[if_neg (by show¬0<=bV done p.id;omega),if_neg (by show¬3<=done.length;omega),if_neg (by show¬p.id<=iq done;omega),if_neg (by show¬p.at'<b.hz;rw[hb];omega)]
  have hE:bn {b with pins:=done,top:=iq done} (iD p)=0:=by unfold bn;rw[if_neg (by rw[hne];decide),if_neg (by omega),if_neg (by omega),if_neg (by omega),if_pos hk];exact hpe
  have hS:aP {b with pins:=done,top:=iq done} (iD p)={b with pins:=done++[p],top:=iq (done++[p])}:=by
   unfold aP;rw[if_neg (by rw[hE];decide),if_neg (by omega),if_neg (by omega),if_neg (by omega),if_pos hk];unfold jy;have e:(⟨p.id,p.at',8⟩:aO)=p:=by rw[<-hpp.2.2.1]
   rw[if_neg (by show¬0<=bV done p.id;omega),Bg];show{b with pins:=done++[(⟨p.id,p.at',8⟩:aO)],top:=p.id}=_;rw[e]
  have ih:=P9 b hb rest (done++[p]) (by simpa using hlen) (by simpa using hr) (by simpa using hp);rw[List.append_assoc]at ih;refine⟨⟨hE,?_⟩,?_⟩
  ·rw[hS];exact ih.1
  ·show runN (aP _ (iD p)) (rest.map iD)=_;rw[hS];exact ih.2
theorem ack{l:List aO}{id:Int}(h:∀p∈l,p.id≠id):freed l id=l:=by unfold freed;rw[if_pos (Du h)]
theorem Ij(b:bQ)(a:kP)(h:saidE a=0)(hr:(toldOf b a.cl).req=0):bn b (ng a)=0/\aP b (ng a)=jA b a:=by
 have hk:(ng a).k=8:=rfl;have hne:aT (ng a)=0:=by unfold aT;rw[if_neg (by omega),if_neg (by omega),if_neg (by omega),if_neg (by omega),if_pos hk];exact h
 have af6:0<=a.req:=by
  unfold saidE at h;split at h
  ·omega
  ·split at h
   ·rename_i h2;exact absurd h h2
   ·rename_i h2;exact(uH.1 (Classical.not_not.1 h2) a.req (by simp)).1
 have hE:bn b (ng a)=0:=by unfold bn;rw[if_neg (by rw[hne];decide),if_neg (by omega),if_neg (by omega),if_neg (by omega),if_neg (by omega),if_neg (by omega),if_pos hk];rw[if_neg (by show¬a.req<(toldOf b a.cl).req;rw[hr];omega)]
 refine⟨hE,?_⟩;unfold aP;rw[if_neg (by rw[hE];decide),if_neg (by omega),if_neg (by omega),if_neg (by omega),if_neg (by omega),if_neg (by omega)];rfl
theorem Zm(b:bQ)(s:bQ)(h:Inv s)(h0:b.t0=jV)(h1:b.t1=jV)(h2:b.t2=jV):o9 b (dM (iW s))/\runN b (dM (iW s))={b with t0:=s.t0,t1:=s.t1,t2:=s.t2}:=by
 have e:dM (iW s)=dM [s.t0]++(dM [s.t1]++dM [s.t2]):=by unfold dM iW;rw[show [s.t0,s.t1,s.t2]=[s.t0]++([s.t1]++[s.t2])from rfl,List.filter_append,List.filter_append,List.map_append,List.map_append]
 have one:∀a:kP,dM [a]=if a=jV then []else [ng a]:=fun a=>by
  unfold dM;by_cases ha:a=jV
  ·rw[if_pos ha,ha];rfl
  ·rw[if_neg ha,List.filter_cons,if_pos (by simpa using ha)];rfl
 have r0:o9 b (dM [s.t0])/\runN b (dM [s.t0])={b with t0:=s.t0}:=by
  rw[one];by_cases ha:s.t0=jV
  ·rw[if_pos ha,ha,<-h0];exact⟨trivial,rfl⟩
  ·rw[if_neg ha];rcases h.a0 with hx|⟨hx,hc⟩
   ·exact absurd hx ha
   ·obtain⟨q1,q2⟩:=Ij b s.t0 hx (by rw[hc,toldOf,if_pos rfl,h0];rfl);refine⟨⟨q1,trivial⟩,?_⟩;show aP b (ng s.t0)=_;rw[q2,jA,if_pos hc]
 have r1:o9 {b with t0:=s.t0} (dM [s.t1])/\runN {b with t0:=s.t0} (dM [s.t1])={b with t0:=s.t0,t1:=s.t1}:=by
  rw[one];by_cases ha:s.t1=jV
  ·rw[if_pos ha,ha,<-h1];exact⟨trivial,rfl⟩
  ·rw[if_neg ha];rcases h.a1 with hx|⟨hx,hc⟩
   ·exact absurd hx ha
   ·obtain⟨q1,q2⟩:=Ij {b with t0:=s.t0} s.t1 hx (by rw[hc,toldOf,if_neg (by decide),if_pos rfl];show b.t1.req=0;rw[h1];rfl);refine⟨⟨q1,trivial⟩,?_⟩;show aP _ (ng s.t1)=_;rw[q2,jA,if_neg (by omega),if_pos hc]
 have r2:o9 {b with t0:=s.t0,t1:=s.t1} (dM [s.t2])/\runN {b with t0:=s.t0,t1:=s.t1} (dM [s.t2])={b with t0:=s.t0,t1:=s.t1,t2:=s.t2}:=by
  rw[one];by_cases ha:s.t2=jV
  ·rw[if_pos ha,ha,<-h2];exact⟨trivial,rfl⟩
  ·rw[if_neg ha];rcases h.a2 with hx|⟨hx,hc⟩
   ·exact absurd hx ha
   ·obtain⟨q1,q2⟩:=Ij {b with t0:=s.t0,t1:=s.t1} s.t2 hx (by rw[hc,toldOf,if_neg (by decide),if_neg (by decide)];show b.t2.req=0;rw[h2];rfl);refine⟨⟨q1,trivial⟩,?_⟩;show aP _ (ng s.t2)=_;rw[q2,jA,if_neg (by omega),if_neg (by omega)]
 rw[e];refine⟨pU r0.1 ?_,?_⟩
 ·rw[r0.2];refine pU r1.1 ?_;rw[r1.2];exact r2.1
 ·rw[nS,r0.2,nS,r1.2,r2.2]
end Mst
namespace Mst
open aJ Vn Go.Sort
theorem VF(x0 x1 x2 x3 x4 x5 x6 x7 x8 x9 x10 x11:Int)(W:World):(Instr.index 119 (.agg #[.int .i64 x0,.int .i64 x1,.int .i64 x2,.int .i64 x3,.int .i64 x4,.int .i64 x5,.int .i64 x6,.int .i64 x7,.int .i64 x8,.int .i64 x9,.int .i64 x10,.int .i64 x11]) (.int .i64 0)).run Tryz.prog W=.ok (.agg #[.int .i64 x0,.int .i64 x1,.int .i64 x2,.int .i64 x3]) W:=by kernel_rfl
theorem VG(x0 x1 x2 x3 x4 x5 x6 x7 x8 x9 x10 x11:Int)(W:World):(Instr.index 119 (.agg #[.int .i64 x0,.int .i64 x1,.int .i64 x2,.int .i64 x3,.int .i64 x4,.int .i64 x5,.int .i64 x6,.int .i64 x7,.int .i64 x8,.int .i64 x9,.int .i64 x10,.int .i64 x11]) (.int .i64 1)).run Tryz.prog W=.ok (.agg #[.int .i64 x4,.int .i64 x5,.int .i64 x6,.int .i64 x7]) W:=by kernel_rfl
theorem VH(x0 x1 x2 x3 x4 x5 x6 x7 x8 x9 x10 x11:Int)(W:World):(Instr.index 119 (.agg #[.int .i64 x0,.int .i64 x1,.int .i64 x2,.int .i64 x3,.int .i64 x4,.int .i64 x5,.int .i64 x6,.int .i64 x7,.int .i64 x8,.int .i64 x9,.int .i64 x10,.int .i64 x11]) (.int .i64 2)).run Tryz.prog W=.ok (.agg #[.int .i64 x8,.int .i64 x9,.int .i64 x10,.int .i64 x11]) W:=by kernel_rfl
attribute [local go_sem↓] VF VG VH
theorem sF{W0 w:World}{s:bQ}{pre l l':List aG}{A:Option Addr}{c:Nat}(h:kZ W0 s w pre l A c)(e:l=l'):kZ W0 s w pre l' A c:=e▸h
theorem Zn{pre:List aG}{l:List aO}{i:Nat}{p:aO}(h:l[i]? =some p):pre++(l.take (i+1)).map iD=(pre++(l.take i).map iD)++[iD p]:=by rw[take_snoc h,List.map_append,List.append_assoc];rfl
theorem Bh{l:List kP}{i:Nat}{a:kP}(h:l[i]? =some a):dM (l.take (i+1))=if decide (a≠jV)=true then dM (l.take i)++[ng a]else dM (l.take i):=by unfold dM;rw[take_snoc h,List.filter_append,List.filter_cons];split<;>simp
theorem JD(l:List kP)(i:Nat):(dM (l.take i)).length<=l.length:=by unfold dM;rw[List.length_map];refine Nat.le_trans (List.length_filter_le ..) ?_;rw[List.length_take];exact Nat.min_le_right _ _
def Zo(w:World)(s:bQ)(e:Ending)(w':World):Prop:=
 ∃A c pre,e=.returned (.slice A (pre++s.pins.map iD++jZ s++[eH s.hz]++dM (iW s)).length c)/\kZ w s w' pre (pre++s.pins.map iD++jZ s++[eH s.hz]++dM (iW s)) A c
theorem zF(p:kP)(W:World):(binOp .neq 76 (pI p) (.agg #[.int .i64 0,.int .i64 0,.int .i64 0,.int .i64 0])).run Tryz.prog W=.ok (.bool (decide (p≠jV))) W:=by obtain⟨p1,p2,p3,p4⟩:=p;by_cases h1:p1=0<;>by_cases h2:p2=0<;>by_cases h3:p3=0<;>by_cases h4:p4=0<;>simp[go_sem,jV,h1,h2,h3,h4]
theorem Nh(w:World)(b:Nat)(F:Nat->Prop)(s:bQ)(hs:fH w b F s)(hok:pY s):
  Calls Tryz.prog 64 #[.pointer (some ⟨b,0,none⟩)] w (Zo w s):=by
 obtain⟨mA,mc,lA,lc,pA,pc,hF,hb,hm,hl,hp⟩:=hs;have hnone:=fun W (hW:Kept aj w W)=>dZ W b s mA mc lA lc pA pc true (hb.kept hW (fun z=>z));have hown:=fun W (hW:Kept aj w W)=>Kz W s.ep s.fl mA mc s.ms ((Src.bF hm).kept hW (fun _ _ z=>z)) (by have:=hok.m;omega);have hcl:=fun W (hW:Kept aj w W)=>zh W lA lc s.lg ((Src.bF hl).kept hW (fun _ _ z=>z)) (by have:=hok.l;omega);have hce:∀W,Kept aj w W->W.cell? ⟨b,0,none⟩=some (.int .i64 s.ep)/\W.cell? ⟨b,1,none⟩=some (.slice mA s.ms.length mc)/\W.cell? ⟨b,2,none⟩=some (.int .u64 s.fl)/\W.cell? ⟨b,3,none⟩=some (.slice lA s.lg.length lc)/\W.cell? ⟨b,4,none⟩=some (.int .u64 s.hz)/\W.cell? ⟨b,5,none⟩=some (.slice pA s.pins.length pc)/\W.cell? ⟨b,6,none⟩=some (.int .i64 s.top):=fun W hW=>by have g:=hb.kept hW (fun z=>z);exact⟨g.cell 0,g.cell 1,g.cell 2,g.cell 3,g.cell 4,g.cell 5,g.cell 6⟩
 have hct:∀W,Kept aj w W->(W.cell? ⟨b,7,none⟩=some (.int .i64 s.t0.cl)/\W.cell? ⟨b,7+1,none⟩=some (.int .i64 s.t0.req)/\W.cell? ⟨b,7+2,none⟩=some (.int .i64 s.t0.e)/\W.cell? ⟨b,7+3,none⟩=some (.int .i64 s.t0.pin))/\(W.cell? ⟨b,7+4,none⟩=some (.int .i64 s.t1.cl)/\W.cell? ⟨b,7+5,none⟩=some (.int .i64 s.t1.req)/\W.cell? ⟨b,7+6,none⟩=some (.int .i64 s.t1.e)/\W.cell? ⟨b,7+7,none⟩=some (.int .i64 s.t1.pin))/\W.cell? ⟨b,7+8,none⟩=some (.int .i64 s.t2.cl)/\W.cell? ⟨b,7+9,none⟩=some (.int .i64 s.t2.req)/\W.cell? ⟨b,7+10,none⟩=some (.int .i64 s.t2.e)/\W.cell? ⟨b,7+11,none⟩=some (.int .i64 s.t2.pin):=fun W hW=>by have g:=hb.kept hW (fun z=>z);exact⟨⟨g.cell 7,g.cell 8,g.cell 9,g.cell 10⟩,⟨g.cell 11,g.cell 12,g.cell 13,g.cell 14⟩,g.cell 15,g.cell 16,g.cell 17,g.cell 18⟩
 have FY:=fun W (hW:Kept aj w W)=>(Src.bF hp).kept hW (fun _ _ z=>z);obtain⟨W0,hW0⟩:∃W0,w.alloc (.cells #[.pointer (some ⟨b,0,none⟩)] 79)=W0:=⟨_,rfl⟩;have hk0:Kept aj w W0:=by rw[<-hW0];(repeat'(first|(with_reducible first|exact ak|apply au|apply ay|apply aA|apply aB)|(right;simp;done)))
 have hn0:Has W0 w.heap.size 79 #[.pointer (some ⟨b,0,none⟩)]:=by rw[<-hW0];exact Has.new _ _ _
 have hx:∀W,Kept aj W0 W->W.cell? ⟨w.heap.size,0,none⟩=some (.pointer (some ⟨b,0,none⟩)):=fun W hW=>(hn0.kept hW (fun z=>z)).cell 0
 have hhas:=fun W (hW:Kept aj W0 W)=>UH W pA pc s.pins 126 (.pointer (some ⟨w.heap.size,0,none⟩)) (fun p=>decide (p.id=s.top)) (fun args W=>enters Tryz.func126 (by kernel_rfl) rfl args W) (FY W (hk0.then hW)) (by have:=hok.p;omega)
  (fun W2 p hW2 _=>VD W2 p w.heap.size b s mA mc lA lc pA pc (hn0.kept (hW.then hW2) (fun z=>z)) (hb.kept (hk0.then (hW.then hW2)) (fun z=>z)))
 obtain⟨un,hun⟩:∃un,(s.pins.any fun p=>decide (p.id=s.top))=un:=⟨_,rfl⟩;rw[hun]at hhas;have hup:jZ s=if un=true then []else [wU s.top]:=by unfold jZ;rw[hun]
 have hpl:=hok.p;have jK:=ah hnone;have qp:=ah hown;have oL:=ah hcl;have iY:=ah hce;have HCT:=ah hct;have vw:=ah FY;have bf:=ah hk0;have HX:=ah hx;have acm:=ah hhas;have Uc:=ah hup;have sJ:=ah hb.lt;clear hnone hown hcl hce hct FY hk0 hx hhas hun hup hn0 hF hb hm hl hp hok;go_enter Tryz.func64,Tryz.ntmps64;have x0:=HX.out _ (Kept.refl _ _);go_wp2_with fail;clear hW0;refine(jK.out _ bf.out).mono ?_;rintro e w2 ⟨rfl,hk⟩;have aV:=ah hk;clear hk x0;obtain⟨z0,z1,z2,z3,z4,z5,z6⟩:=iY.out w2 (bf.out.then aV.out);have x0:=HX.out _ aV.out;by_cases mP:0<s.ep
 case' neg=>
  have acn:(0<s.ep)=False:=eq_false mP;go_wp2_with fail;clear acn z0 z1 z2 z3 z4 z5 z6 x0;obtain⟨w5,hw5⟩:∃w5,w5=w2:=⟨_,rfl⟩;obtain⟨pre,hpre⟩:∃pre:List aG,pre=[]:=⟨_,rfl⟩;have hout:kZ W0 s w5 pre pre none 0:=by subst hpre;exact⟨⟨rfl,.inl ⟨rfl,rfl⟩⟩,(fun k hk=>by cases hk),.inl ⟨rfl,by omega⟩,hw5▸aV.out⟩
  obtain⟨V,hV⟩:∃V:Value,V=.slice none 0 0:=⟨_,rfl⟩;have wL:Hid (∃A c,Value.slice none 0 0=.slice A pre.length c/\kZ W0 s w5 pre pre A c):=ah ⟨none,0,by rw[hpre];rfl,hout⟩;have GN:Hid (pre.length<=1):=ah (by rw[hpre];decide);rw[<-hw5];clear hout hV V hpre hw5 aV;skip
 case' pos=>
  have acn:(0<s.ep)=True:=eq_true mP;have HS:=ah (Kept.refl aj w2);have gU:Hid (0+1<=maxLen):=ah (by decide);have iT:Hid ((0+1)*192<=140737488355328):=ah (by decide);have uq:Hid (∀W,Kept aj w2 W->W.cell? ⟨w.heap.size,0,none⟩=some (.pointer (some ⟨b,0,none⟩))/\W.cell? ⟨b,0,none⟩=some (.int .i64 s.ep)/\W.cell? ⟨b,1,none⟩=some (.slice mA s.ms.length mc)/\W.cell? ⟨b,2,none⟩=some (.int .u64 s.fl)/\W.cell? ⟨b,3,none⟩=some (.slice lA s.lg.length lc)):=ah fun W hW=>by have r:=iY.out _ (bf.out.then (aV.out.then hW));exact⟨HX.out _ (aV.out.then hW),r.1,r.2.1,r.2.2.1,r.2.2.2.1⟩
  go_wp2_with fail
  (go_region_held3 (fun W=>W.cell? ⟨w.heap.size,0,none⟩=some (.pointer (some ⟨b,0,none⟩))/\W.cell? ⟨b,0,none⟩=some (.int .i64 s.ep)/\W.cell? ⟨b,1,none⟩=some (.slice mA s.ms.length mc)/\W.cell? ⟨b,2,none⟩=some (.int .u64 s.fl)/\W.cell? ⟨b,3,none⟩=some (.slice lA s.lg.length lc))
    (first|with_reducible exact uq.out _ HS.out|(refine uq.out _ ?_;(repeat'(first|(with_reducible first|exact ak|apply au|apply ay|apply aA|apply aB)|(exact HS.out)|(right;simp;done)));done)|(simp[go_sem,x0,z0,z1,z2,z3];done))
    (first
     |(go_at_call 86;((with_reducible refine(qp.out _ ?_).mono ?_);(exact bf.out.then (aV.out.then (by(repeat'(first|(with_reducible first|exact ak|apply au|apply ay|apply aA|apply aB)|(exact HS.out)|(right;simp;done))))));rintro e w4 ⟨A4,c4,rfl,hn4,hk4⟩;have hk:=Kept.then (F:=aj) (a:=w2) (by(repeat'(first|(with_reducible first|exact ak|apply au|apply ay|apply aA|apply aB)|(exact HS.out)|(right;simp;done)))) hk4;have Ud:=ah hn4.1;clear HS hk4 hn4;have HS:=ah hk;clear hk))
     |(go_at_call 124;((with_reducible refine(oL.out _ ?_).mono ?_);(exact bf.out.then (aV.out.then (by(repeat'(first|(with_reducible first|exact ak|apply au|apply ay|apply aA|apply aB)|(exact HS.out)|(right;simp;done))))));rintro e w3 ⟨A5,c5,rfl,kG,hk5⟩;have hk:=Kept.then (F:=aj) (a:=w2) (by(repeat'(first|(with_reducible first|exact ak|apply au|apply ay|apply aA|apply aB)|(exact HS.out)|(right;simp;done)))) hk5;have uP:=ah (And.intro (aC Ud.out (F:=aj) (Kept.then (F:=aj) (a:=w4) (by(repeat'(first|(with_reducible first|exact ak|apply au|apply ay|apply aA|apply aB)|(right;simp;done)))) hk5) (fun _ _ z=>z)) kG.1);have af7:=ah hk.size;clear HS hk5 kG Ud;have HS:=ah hk;clear hk))
     |(with_reducible apply kU rJ (.tmp 16) (.tmp 28) (n:=0) (xs:=[]) (m:=1) (c:=1) (news:=[.int .i64 1,.int .i64 0,.int .u64 0,.int .i64 s.ep,.slice A4 s.ms.length c4,.int .u64 s.fl,.slice A5 s.lg.length c5,.int .i64 0,.int .i64 0,.slice none 0 0,.int .u64 0,.int .i64 0,.int .u64 0,.int .i64 0,.int .i64 0,.int .i64 0,.int .i64 0,.int .i64 0])
       rfl
       rfl
       exact(rfl:_=Value.slice none 0 0)
       (exact⟨rfl,.inl ⟨rfl,rfl⟩⟩)
       exact(rfl:_=Value.slice (some ⟨_,0,none⟩) 1 1)
       ((with_reducible apply Src.dA (t:=78) (m:=1) (cs:=#[.int .i64 1,.int .i64 0,.int .u64 0,.int .i64 s.ep,.slice A4 s.ms.length c4,.int .u64 s.fl,.slice A5 s.lg.length c5,.int .i64 0,.int .i64 0,.slice none 0 0,.int .u64 0,.int .i64 0,.int .u64 0,.int .i64 0,.int .i64 0,.int .i64 0,.int .i64 0,.int .i64 0]));(repeat (with_reducible first|exact Has.bK _ _ _ (by simp)|apply Has.drew|apply Has.drewN|apply Has.alloc|(apply Has.past<;>(try omega))));rfl)
       exact qj (mZ s A4 c4 A5 c5)
       exact gU.out
       exact iT.out
       intro A6 c6 w6 DY EP ha6
       simp only[Nat.zero_add,List.nil_append]at DY ha6⊢
       (have hk6:Kept aj w2 w6:=Kept.grown (Kept.then (F:=aj) (a:=w2) HS.out (by(repeat'(first|(with_reducible first|exact ak|apply au|apply ay|apply aA|apply aB)|(right;simp;done))))) EP (fun k hk=>by cases hk))
       (have aco:Kept aj w3 w6:=Kept.grown (by(repeat'(first|(with_reducible first|exact ak|apply au|apply ay|apply aA|apply aB)|(right;simp;done)))) EP (fun k hk=>by cases hk))
       have Jv:Hid (yI w6 s [mZ s A4 c4 A5 c5]):=ah (.inr ⟨mP,A4,c4,A5,c5,rfl,aC uP.out.1 aco (fun _ _ z=>z),aC uP.out.2 aco (fun _ _ z=>z)⟩)
       have HZ6:=ah (And.intro DY ha6)
       clear HS
       have HS:=ah hk6
       clear DY EP ha6 hk6 aco)))
  obtain⟨pre,hpre⟩:∃pre:List aG,pre=[mZ s A4 c4 A5 c5]:=⟨_,rfl⟩
  have wL:Hid (∃A c,Value.slice A6 1 c6=.slice A pre.length c/\kZ W0 s w6 pre pre A c):=ah ⟨A6,c6,by rw[hpre];rfl,by
   subst hpre;refine⟨HZ6.out.1,fun k hk=> ?_,Jv.out,aV.out.then HS.out⟩;rcases HZ6.out.2 with e|e
   ·have h9:=e.symm.trans hk;cases h9
   ·have h9:=e.symm.trans hk;injection h9 with h9;have h8:=aV.out.size;have h7:=af7.out;first|(simp at h9;omega)|omega⟩
  have GN:Hid (pre.length<=1):=ah (by rw[hpre];exact Nat.le_refl _);obtain⟨w5,hw5⟩:∃w5,w5=w6:=⟨_,rfl⟩;rw[<-hw5]at wL⊢;clear hpre hw5 HZ6 Jv HS uP uq aV gU iT acn z0 z1 z2 z3 z4 z5 z6 x0 af7;skip
 all_goals
  have hk5:Kept aj W0 w5:=by obtain⟨A,c,_,ho⟩:=wL.out;exact ho.kept
  obtain⟨z0,z1,z2,z3,z4,z5,z6⟩:=iY.out w5 (bf.out.then hk5)
  have x0:=HX.out _ hk5
  have dB:=ah hk5
  clear hk5
  go_wp2_with fail
  clear z0 z1 z2 z3 z4 z5 z6 x0
  go_loopw [3,5,35] (fun v3 v5 v35 wr=>∃(i:Nat) (A:Option Addr) (c:Nat),i<=s.pins.length/\v35=.int .i64 i/\v3=.slice A (pre++(s.pins.take i).map iD).length c/\kZ W0 s wr pre (pre++(s.pins.take i).map iD) A c) (fun _ _ v35 _=>s.pins.length-(intOf v35).toNat)
  case atStart=>
   obtain⟨A,c,e,ho⟩:=wL.out;exact⟨0,A,c,Nat.zero_le _,rfl,by rw[List.take_zero,List.map_nil,List.append_nil];exact e,sF ho (by simp)⟩
  case round=>
   obtain⟨i,A,c,hi,rfl,rfl,ho⟩:=hrel;have HO:=ah ho;clear ho wL dB;have hlen:(pre++(s.pins.take i).map iD).length<=1+i:=by rw[lA0,List.length_map,List.length_take];have:=GN.out;omega
   by_cases hil:i<s.pins.length
   ·obtain⟨⟨p1,p2,p3⟩,hp⟩:∃p,s.pins[i]? =some p:=⟨_,lB0 hil⟩;obtain⟨ad,rfl,had,q0,q1,q2⟩:=iL (vw.out _ (bf.out.then HO.out.kept)) (by omega) i _ hp;dsimp only at q0 q1 q2;have hst:=Zn (pre:=pre) hp;have HST:=ah hst;clear hst hp;obtain⟨L,hL⟩:∃L,pre++(s.pins.take i).map iD=L:=⟨_,rfl⟩;rw[hL]at HO HST hlen;simp only[hL];clear hL;have gU:Hid (L.length+1<=maxLen):=ah (by unfold maxLen;omega);have iT:Hid ((L.length+1)*192<=140737488355328):=ah (by omega);clear hlen;go_wp2_with (at_builtin;refine aN rJ (.tmp 39) (.tmp 42) rfl rfl (Value.slice A (L).length c) rfl (aC HO.out.own (F:=aj) (by(repeat'(first|(with_reducible first|exact ak|apply au|apply ay|apply aA|apply aB)|(right;simp;done)))) (fun _ _ x=>x)) 1 rfl (Src.dA (t:=78) (m:=1) (cs:=#[.int .i64 6,.int .i64 0,.int .u64 0,.int .i64 0,.slice none 0 0,.int .u64 0,.slice none 0 0,.int .i64 0,.int .i64 0,.slice none 0 0,.int .u64 0,.int .i64 p1,.int .u64 p2,.int .i64 p3,.int .i64 0,.int .i64 0,.int .i64 0,.int .i64 0]) (by(repeat (with_reducible first|exact Has.bK _ _ _ (by simp)|apply Has.drew|apply Has.drewN|apply Has.alloc|(apply Has.past<;>(try omega))))) rfl) (qj (iD ⟨p1,p2,p3⟩)) gU.out iT.out ?_;intro A1 c1 w9 ho1 hg1 ha1;have hpush:=kZ.push (iD ⟨p1,p2,p3⟩) HO.out (by(repeat'(first|(with_reducible first|exact ak|apply au|apply ay|apply aA|apply aB)|(right;simp;done)))) ho1 hg1 ha1;have HP:=ah hpush;clear ho1 hg1 ha1 hpush);go_roundw
    case rel=>exact⟨i+1,A1,c1,by omega,by go_num,by rw[HST.out];simp,sF HP.out HST.out.symm⟩
    case measure=>simp[intOf];omega
   ·obtain rfl:i=s.pins.length:=by omega
    rw[List.take_length]at hlen HO;rw[List.take_length];obtain⟨L,hL⟩:∃L,pre++s.pins.map iD=L:=⟨_,rfl⟩;rw[hL]at HO hlen;rw[hL];have HL:=ah hL;clear hL;obtain⟨z0,z1,z2,z3,z4,z5,z6⟩:=iY.out _ (bf.out.then HO.out.kept);have x0:=HX.out _ HO.out.kept;go_wp2_with fail;clear z0 z1 z2 z3 z4 z5 z6 x0;refine(acm.out _ HO.out.kept).mono ?_;rintro e w6 ⟨rfl,hk⟩;have Nj:=ah (HO.out.still hk);clear hk;obtain⟨z0,z1,z2,z3,z4,z5,z6⟩:=iY.out _ (bf.out.then Nj.out.kept);have x0:=HX.out _ Nj.out.kept;have gU:Hid (L.length+1<=maxLen):=ah (by unfold maxLen;omega);have iT:Hid ((L.length+1)*192<=140737488355328):=ah (by omega);cases un
    case' true=>
     rw[if_pos rfl]at Uc;go_wp2_with (at_builtin;refine aN rJ (.tmp 60) (.tmp 66) rfl rfl (Value.slice A (L).length c) rfl (aC Nj.out.own (F:=aj) (by(repeat'(first|(with_reducible first|exact ak|apply au|apply ay|apply aA|apply aB)|(right;simp;done)))) (fun _ _ x=>x)) 1 rfl (Src.dA (t:=78) (m:=1) (cs:=#[.int .i64 4,.int .i64 0,.int .u64 s.hz,.int .i64 0,.slice none 0 0,.int .u64 0,.slice none 0 0,.int .i64 0,.int .i64 0,.slice none 0 0,.int .u64 0,.int .i64 0,.int .u64 0,.int .i64 0,.int .i64 0,.int .i64 0,.int .i64 0,.int .i64 0]) (by(repeat (with_reducible first|exact Has.bK _ _ _ (by simp)|apply Has.drew|apply Has.drewN|apply Has.alloc|(apply Has.past<;>(try omega))))) rfl) (qj (eH s.hz)) gU.out iT.out ?_;intro A1 c1 w9 ho1 hg1 ha1;have hpush:=kZ.push (eH s.hz) Nj.out (by(repeat'(first|(with_reducible first|exact ak|apply au|apply ay|apply aA|apply aB)|(right;simp;done)))) ho1 hg1 ha1;have vU:=ah hpush;clear ho1 hg1 ha1 hpush;clear z0 z1 z2 z3 z4 z5 z6 x0;have y0:=HX.out _ vU.out.kept;obtain⟨⟨t00,t01,t02,t03⟩,⟨t10,t11,t12,t13⟩,t20,t21,t22,t23⟩:=HCT.out _ (bf.out.then vU.out.kept));have Nk:Hid (L++[eH s.hz]=pre++s.pins.map iD++jZ s++[eH s.hz]):=ah (by rw[Uc.out,List.append_nil,HL.out]);have VI:(L++[eH s.hz]).length<=4+s.pins.length:=by rw[lA0];simp;omega
     have e9:L.length+1=(L++[eH s.hz]).length:=by simp
     rw[e9]at⊢;obtain⟨L9,Zp⟩:∃L9,L9=L++[eH s.hz]:=⟨_,rfl⟩;rw[<-Zp]at vU Nk VI⊢;clear Nj Zp hlen gU iT e9 y0 t00 t01 t02 t03 t10 t11 t12 t13 t20 t21 t22 t23;skip
    case' false=>
     rw[if_neg (by simp)]at Uc;go_wp2_with (first|(at_builtin;refine aN rJ (.tmp 60) (.tmp 66) rfl rfl (Value.slice A1 (L8).length c1) rfl (aC Ue.out.own (F:=aj) (by(repeat'(first|(with_reducible first|exact ak|apply au|apply ay|apply aA|apply aB)|(right;simp;done)))) (fun _ _ x=>x)) 1 rfl (Src.dA (t:=78) (m:=1) (cs:=#[.int .i64 4,.int .i64 0,.int .u64 s.hz,.int .i64 0,.slice none 0 0,.int .u64 0,.slice none 0 0,.int .i64 0,.int .i64 0,.slice none 0 0,.int .u64 0,.int .i64 0,.int .u64 0,.int .i64 0,.int .i64 0,.int .i64 0,.int .i64 0,.int .i64 0]) (by(repeat (with_reducible first|exact Has.bK _ _ _ (by simp)|apply Has.drew|apply Has.drewN|apply Has.alloc|(apply Has.past<;>(try omega))))) rfl) (qj (eH s.hz)) xC.out zo.out ?_;intro A2 c2 w10 ho1 hg1 ha1;have hpush:=kZ.push (eH s.hz) Ue.out (by(repeat'(first|(with_reducible first|exact ak|apply au|apply ay|apply aA|apply aB)|(right;simp;done)))) ho1 hg1 ha1;have vU:=ah hpush;clear ho1 hg1 ha1 hpush;clear y0 y1 y2 y3 y4 y5 y6 y7;have y0:=HX.out _ vU.out.kept;obtain⟨⟨t00,t01,t02,t03⟩,⟨t10,t11,t12,t13⟩,t20,t21,t22,t23⟩:=HCT.out _ (bf.out.then vU.out.kept))|(at_builtin;refine aN rJ (.tmp 52) (.tmp 58) rfl rfl (Value.slice A (L).length c) rfl (aC Nj.out.own (F:=aj) (by(repeat'(first|(with_reducible first|exact ak|apply au|apply ay|apply aA|apply aB)|(right;simp;done)))) (fun _ _ x=>x)) 1 rfl (Src.dA (t:=78) (m:=1) (cs:=#[.int .i64 7,.int .i64 s.top,.int .u64 0,.int .i64 0,.slice none 0 0,.int .u64 0,.slice none 0 0,.int .i64 0,.int .i64 0,.slice none 0 0,.int .u64 0,.int .i64 0,.int .u64 0,.int .i64 0,.int .i64 0,.int .i64 0,.int .i64 0,.int .i64 0]) (by(repeat (with_reducible first|exact Has.bK _ _ _ (by simp)|apply Has.drew|apply Has.drewN|apply Has.alloc|(apply Has.past<;>(try omega))))) rfl) (qj (wU s.top)) gU.out iT.out ?_;intro A1 c1 w9 ho1 hg1 ha1;have hpush:=kZ.push (wU s.top) Nj.out (by(repeat'(first|(with_reducible first|exact ak|apply au|apply ay|apply aA|apply aB)|(right;simp;done)))) ho1 hg1 ha1;have Ue:=ah hpush;clear ho1 hg1 ha1 hpush;have e8:L.length+1=(L++[wU s.top]).length:=(by simp);obtain⟨L8,hL8⟩:∃L8,L8=L++[wU s.top]:=⟨_,rfl⟩;rw[<-hL8]at Ue e8;rw[e8];have xC:Hid (L8.length+1<=maxLen):=ah (by unfold maxLen;omega);have zo:Hid ((L8.length+1)*192<=140737488355328):=ah (by omega);have HE8:=ah hL8;clear hL8 e8;have y0:=HX.out _ Ue.out.kept;obtain⟨y1,y2,y3,y4,y5,y6,y7⟩:=iY.out _ (bf.out.then Ue.out.kept)));have hl8:L8.length=L.length+1:=by rw[HE8.out];simp
     have Nk:Hid (L8++[eH s.hz]=pre++s.pins.map iD++jZ s++[eH s.hz]):=ah (by rw[HE8.out,Uc.out,HL.out]);have VI:(L8++[eH s.hz]).length<=4+s.pins.length:=by rw[lA0];simp;omega
     have e9:L8.length+1=(L8++[eH s.hz]).length:=by simp
     rw[e9]at⊢;obtain⟨L9,Zp⟩:∃L9,L9=L8++[eH s.hz]:=⟨_,rfl⟩;rw[<-Zp]at vU Nk VI⊢;clear z0 z1 z2 z3 z4 z5 z6 x0 Nj Ue Zp hlen gU iT xC zo HE8 hl8 e9 y0 t00 t01 t02 t03 t10 t11 t12 t13 t20 t21 t22 t23;skip
    all_goals
     rename_i A9 c9 w9
     go_loopw [3,7,72] (fun v3 _ v72 wr=>∃(i:Nat) (A:Option Addr) (c:Nat),i<=3/\v72=.int .i64 i/\v3=.slice A (L9++dM ((iW s).take i)).length c/\kZ W0 s wr pre (L9++dM ((iW s).take i)) A c) (fun _ _ v72 _=>3-(intOf v72).toNat)
     case atStart=>exact⟨0,_,_,Nat.zero_le _,rfl,by rw[List.take_zero];simp[dM],sF vU.out (by simp[dM])⟩
     case round=>
      obtain⟨i,A,c,hi,rfl,rfl,ho⟩:=hrel;have HO:=ah ho;clear ho vU;have hlen:(L9++dM ((iW s).take i)).length<=7+s.pins.length:=by rw[lA0];have:=JD (iW s) i;have:(iW s).length=3:=rfl;omega
      by_cases hi3:i<3
      ·have ahO:i=0\/i=1\/i=2:=by omega
       rcases ahO with rfl|rfl|rfl
       ·have hst:=Bh (show(iW s)[0]? =some s.t0 from rfl);have hne:=zF s.t0;obtain⟨d,hd⟩:∃d,decide (s.t0≠jV)=d:=⟨_,rfl⟩;rw[hd]at hne hst;clear hd;obtain⟨L,hL⟩:∃L,L9++dM ((iW s).take 0)=L:=⟨_,rfl⟩;have hst2:L9++dM ((iW s).take (0+1))=if d=true then L++[ng s.t0]else L:=by
         rw[hst,<-hL];split
         ·rw[List.append_assoc]
         ·rfl
        rw[hL]at HO hlen;have gU:Hid (L.length+1<=maxLen):=ah (by unfold maxLen;omega);have iT:Hid ((L.length+1)*192<=140737488355328):=ah (by omega);simp only[hL];clear hL hlen hst;dsimp only[pI]at hne;cases d
        ·rw[if_neg (by simp)]at hst2;have HST:=ah hst2;clear hst2;go_wp2;go_roundw
         case rel=>exact⟨0+1,A,c,by omega,by go_num,by rw[HST.out],sF (HO.out.still (by(repeat'(first|(with_reducible first|exact ak|apply au|apply ay|apply aA|apply aB)|(right;simp;done))))) HST.out.symm⟩
         case measure=>simp[intOf]
        ·rw[if_pos rfl]at hst2;have HST:=ah hst2;clear hst2;go_wp2_with (at_builtin;refine aN rJ (.tmp 78) (.tmp 81) rfl rfl (Value.slice A (L).length c) rfl (aC HO.out.own (F:=aj) (by(repeat'(first|(with_reducible first|exact ak|apply au|apply ay|apply aA|apply aB)|(right;simp;done)))) (fun _ _ x=>x)) 1 rfl (Src.dA (t:=78) (m:=1) (cs:=#[.int .i64 8,.int .i64 0,.int .u64 0,.int .i64 0,.slice none 0 0,.int .u64 0,.slice none 0 0,.int .i64 0,.int .i64 0,.slice none 0 0,.int .u64 0,.int .i64 0,.int .u64 0,.int .i64 0,.int .i64 s.t0.cl,.int .i64 s.t0.req,.int .i64 s.t0.e,.int .i64 s.t0.pin]) (by(repeat (with_reducible first|exact Has.bK _ _ _ (by simp)|apply Has.drew|apply Has.drewN|apply Has.alloc|(apply Has.past<;>(try omega))))) rfl) (qj (ng s.t0)) gU.out iT.out ?_;intro A1 c1 w9 ho1 hg1 ha1;have hpush:=kZ.push (ng s.t0) HO.out (by(repeat'(first|(with_reducible first|exact ak|apply au|apply ay|apply aA|apply aB)|(right;simp;done)))) ho1 hg1 ha1;have HP:=ah hpush;clear ho1 hg1 ha1 hpush);go_roundw
         case rel=>exact⟨0+1,A1,c1,by omega,by go_num,by rw[HST.out];simp,sF HP.out HST.out.symm⟩
         case measure=>simp[intOf]
       ·have hst:=Bh (show(iW s)[1]? =some s.t1 from rfl);have hne:=zF s.t1;obtain⟨d,hd⟩:∃d,decide (s.t1≠jV)=d:=⟨_,rfl⟩;rw[hd]at hne hst;clear hd;obtain⟨L,hL⟩:∃L,L9++dM ((iW s).take 1)=L:=⟨_,rfl⟩;have hst2:L9++dM ((iW s).take (1+1))=if d=true then L++[ng s.t1]else L:=by
         rw[hst,<-hL];split
         ·rw[List.append_assoc]
         ·rfl
        rw[hL]at HO hlen;have gU:Hid (L.length+1<=maxLen):=ah (by unfold maxLen;omega);have iT:Hid ((L.length+1)*192<=140737488355328):=ah (by omega);simp only[hL];clear hL hlen hst;dsimp only[pI]at hne;cases d
        ·rw[if_neg (by simp)]at hst2;have HST:=ah hst2;clear hst2;go_wp2;go_roundw
         case rel=>exact⟨1+1,A,c,by omega,by go_num,by rw[HST.out],sF (HO.out.still (by(repeat'(first|(with_reducible first|exact ak|apply au|apply ay|apply aA|apply aB)|(right;simp;done))))) HST.out.symm⟩
         case measure=>simp[intOf]
        ·rw[if_pos rfl]at hst2;have HST:=ah hst2;clear hst2;go_wp2_with (at_builtin;refine aN rJ (.tmp 78) (.tmp 81) rfl rfl (Value.slice A (L).length c) rfl (aC HO.out.own (F:=aj) (by(repeat'(first|(with_reducible first|exact ak|apply au|apply ay|apply aA|apply aB)|(right;simp;done)))) (fun _ _ x=>x)) 1 rfl (Src.dA (t:=78) (m:=1) (cs:=#[.int .i64 8,.int .i64 0,.int .u64 0,.int .i64 0,.slice none 0 0,.int .u64 0,.slice none 0 0,.int .i64 0,.int .i64 0,.slice none 0 0,.int .u64 0,.int .i64 0,.int .u64 0,.int .i64 0,.int .i64 s.t1.cl,.int .i64 s.t1.req,.int .i64 s.t1.e,.int .i64 s.t1.pin]) (by(repeat (with_reducible first|exact Has.bK _ _ _ (by simp)|apply Has.drew|apply Has.drewN|apply Has.alloc|(apply Has.past<;>(try omega))))) rfl) (qj (ng s.t1)) gU.out iT.out ?_;intro A1 c1 w9 ho1 hg1 ha1;have hpush:=kZ.push (ng s.t1) HO.out (by(repeat'(first|(with_reducible first|exact ak|apply au|apply ay|apply aA|apply aB)|(right;simp;done)))) ho1 hg1 ha1;have HP:=ah hpush;clear ho1 hg1 ha1 hpush);go_roundw
         case rel=>exact⟨1+1,A1,c1,by omega,by go_num,by rw[HST.out];simp,sF HP.out HST.out.symm⟩
         case measure=>simp[intOf]
       ·have hst:=Bh (show(iW s)[2]? =some s.t2 from rfl);have hne:=zF s.t2;obtain⟨d,hd⟩:∃d,decide (s.t2≠jV)=d:=⟨_,rfl⟩;rw[hd]at hne hst;clear hd;obtain⟨L,hL⟩:∃L,L9++dM ((iW s).take 2)=L:=⟨_,rfl⟩;have hst2:L9++dM ((iW s).take (2+1))=if d=true then L++[ng s.t2]else L:=by
         rw[hst,<-hL];split
         ·rw[List.append_assoc]
         ·rfl
        rw[hL]at HO hlen;have gU:Hid (L.length+1<=maxLen):=ah (by unfold maxLen;omega);have iT:Hid ((L.length+1)*192<=140737488355328):=ah (by omega);simp only[hL];clear hL hlen hst;dsimp only[pI]at hne;cases d
        ·rw[if_neg (by simp)]at hst2;have HST:=ah hst2;clear hst2;go_wp2;go_roundw
         case rel=>exact⟨2+1,A,c,by omega,by go_num,by rw[HST.out],sF (HO.out.still (by(repeat'(first|(with_reducible first|exact ak|apply au|apply ay|apply aA|apply aB)|(right;simp;done))))) HST.out.symm⟩
         case measure=>simp[intOf]
        ·rw[if_pos rfl]at hst2;have HST:=ah hst2;clear hst2;go_wp2_with (at_builtin;refine aN rJ (.tmp 78) (.tmp 81) rfl rfl (Value.slice A (L).length c) rfl (aC HO.out.own (F:=aj) (by(repeat'(first|(with_reducible first|exact ak|apply au|apply ay|apply aA|apply aB)|(right;simp;done)))) (fun _ _ x=>x)) 1 rfl (Src.dA (t:=78) (m:=1) (cs:=#[.int .i64 8,.int .i64 0,.int .u64 0,.int .i64 0,.slice none 0 0,.int .u64 0,.slice none 0 0,.int .i64 0,.int .i64 0,.slice none 0 0,.int .u64 0,.int .i64 0,.int .u64 0,.int .i64 0,.int .i64 s.t2.cl,.int .i64 s.t2.req,.int .i64 s.t2.e,.int .i64 s.t2.pin]) (by(repeat (with_reducible first|exact Has.bK _ _ _ (by simp)|apply Has.drew|apply Has.drewN|apply Has.alloc|(apply Has.past<;>(try omega))))) rfl) (qj (ng s.t2)) gU.out iT.out ?_;intro A1 c1 w9 ho1 hg1 ha1;have hpush:=kZ.push (ng s.t2) HO.out (by(repeat'(first|(with_reducible first|exact ak|apply au|apply ay|apply aA|apply aB)|(right;simp;done)))) ho1 hg1 ha1;have HP:=ah hpush;clear ho1 hg1 ha1 hpush);go_roundw
         case rel=>exact⟨2+1,A1,c1,by omega,by go_num,by rw[HST.out];simp,sF HP.out HST.out.symm⟩
         case measure=>simp[intOf]
      ·obtain rfl:i=3:=by omega
       go_wp2;go_ret;refine⟨A,c,pre,?_,?_⟩
       ·rw[<-Nk.out];rfl
       ·rw[<-Nk.out];have h9:=HO.out;exact⟨h9.own,fun k hk=>Nat.le_trans bf.out.size (h9.new k hk),h9.pre,bf.out.then h9.kept⟩
end Mst
namespace Pt
open aH Fr Vn Ops Wl
def AOk(W:World)(a:ab6):Prop:=Src W 1 a.A a.l.length (a.l.map Value.string)/\a.l.length<=maxLen/\I64 a.n
theorem AOk.kept{W W':World}{a:ab6}(h:AOk W a)(hk:Kept aj W W'):AOk W' a:=⟨h.1.kept hk (fun _ _ z=>z),h.2⟩
end Pt
section
open Go.WideShapes Go.ChangeShapes
variable{H:Type}{enc:TypeId×Value->H}{W:World}{v:Value}{d:DataW H}{ps:List MemPlace}{r:Reach}{b0:Nat}
end
namespace Pt
open aH Fr Vn Ops Wl
theorem acp(k:Nat)(l:List ByteArray)(M:Nat):(kM k l).take (M+1)=kM k (l.take M):=by unfold kM;rw[List.take_succ_cons,List.map_take]
section
variable{w0 w w':World}{gp gw g n c:Nat}{F:Nat->Prop}{m:aH.Safe}{ps:List aH.Pc}{aQ first:Int}{R:St}{T:List (List UInt8)}{A:Option Addr}{l:List ByteArray}
theorem lX.aeC{B:Nat}{aX:Int}(h:lX w B gp gw g F n m ps aX aQ first R T A c l):ps.length=T.length:=by rw[h.low.low.pcs h.log,xH]
theorem lX.Vr{B:Nat}{aX:Int}(h:lX w B gp gw g F n m ps aX aQ first R T A c l)(hh:Hd R)(left:Nat):
  ∃R' k M,Log first R' [] (qK m left ps) []/\qx first (qK m left ps) []/\Hd R'/\texts R'=kM k (l.take M)/\M<=l.length/\(texts R).length<=M+1/\R'.length<=R.length+T.length/\k+1<=(texts R).length:=by
 obtain⟨R',j,a,b,e,ct,d⟩:=Dq ps left h.log.safe h.log.ok hh h.log.T h.log.rest;obtain⟨k,h3,h4⟩:=h.tx;have hpre:texts R'<+:kM k l:=by rw[ct,<-h3];exact(List.prefix_append_right_inj _).2 (List.take_prefix _ _)
 have hge:(texts R).length<=(texts R').length:=by rw[ct];simp
 have hle:=hpre.length_le;rw[uF]at hle;obtain⟨M,hM⟩:∃M,(texts R').length=M+1:=⟨(texts R').length-1,by omega⟩;refine⟨R',k,M,⟨a,rfl,b,fun t ht=>by cases ht⟩,h.low.Vr left,e,?_,by omega,by omega,d,h4⟩;rw[List.prefix_iff_eq_take.1 hpre,hM,acp]
end
end Pt
namespace bW
open aJ Vn Mst jQ IM kK gu
def mQ(s:bQ):List aG:=(if 0<s.ep then [mZ s none 0 none 0]else [])++s.pins.map iD++jZ s++[eH s.hz]++dM (iW s)
theorem oQ(a b:List aG):gG (a++b)=gG a++gG b:=by unfold gG;rw[List.filter_append,List.map_append]
theorem Zq{w:World}{s:bQ}{pre:List aG}(h:yI w s pre):gG (pre++s.pins.map iD++jZ s++[eH s.hz]++dM (iW s))=gG (mQ s):=by
 unfold mQ;rw[oQ,oQ,oQ,oQ,oQ,oQ,oQ,oQ];congr 4;rcases h with⟨h1,h2⟩|⟨h1,A,c,B,d,rfl,_,_⟩
 ·rw[h1,if_neg h2]
 ·rw[if_pos h1];have hE:aT (mZ s A c B d)=aT (mZ s none 0 none 0):=rfl;have hB:lK (mZ s A c B d)=lK (mZ s none 0 none 0):=rfl;unfold gG;by_cases h0:aT (mZ s none 0 none 0)=0
  ·rw[List.filter_cons,if_pos (decide_eq_true (hE.trans h0)),List.filter_cons,if_pos (decide_eq_true h0),List.filter_nil,List.map_cons,List.map_cons,hB]
  ·rw[List.filter_cons,if_neg (by rw[hE];simpa using h0),List.filter_cons,if_neg (by simpa using h0)]
theorem Nl(s:bQ)(pre:List aG)(hp:pre.length<=1):(pre++s.pins.map iD++jZ s++[eH s.hz]++dM (iW s)).length<=s.pins.length+6:=by
 have h1:(jZ s).length<=1:=by unfold jZ;split<;>simp
 have h2:(dM (iW s)).length<=3:=JD (iW s) 3;simp only[lA0,List.length_map,List.length_singleton];omega
def mg(M:MR):MR:={M with lg:=if 2048<M.lg.sync.size then M.lg.sync.save (gG (mQ M.st))else M.lg.sync,out:=[]}
def Ik(w:World)(X:MX)(M:MR)(c:Nat)(e:Ending)(w':World):Prop:=
 ∃A d,e=.returned (.slice A M.out.length d)/\w'.ownsRow 0 237 2 (.slice A M.out.length d) M.out.length (vF M.out)/\(∀k,(Value.slice A M.out.length d).ownBlock=some k->dN X M k\/w.heap.size<=k)/\∃X',Step w X M w' X' (mg M)/\dG X' (mg M).lg (c+1)/\(∀k,(Value.slice A M.out.length d).ownBlock=some k->¬dN X' (mg M) k)
section
variable{w w':World}{X X0:MX}{M M0:MR}{c:Nat}
theorem Zr(t:List UInt8):0<(Fr.bM t).length:=by unfold Fr.bM;rw[lA0,lA0];have:=put_pos t.length;omega
theorem Zs(first:Int)(R:Wl.St)(t:List UInt8)(T:List (List UInt8)):0<aH.total (Wl.jl first R (t::T)):=by
 show 0<aH.total ((first+Wl.lastOf R,Ops.bI (Fr.bM t))::Wl.jl first (Wl.app R t) T);rw[aH.total_cons];dsimp only;have:=Zr t;have h2:(Ops.bI (Fr.bM t)).size=(Fr.bM t).length:=by rw[<-Ops.bP,Ops.jq]
 omega
theorem Zt(h:dJ w X M)(hb:dG X M.lg c)(hc:c<=4500):
  Calls Tryz.prog 60 #[.pointer (some ⟨X.g,0,none⟩)] w fun e w'=>(∃k:Int,e=.returned (.int .i64 k))/\∃X',Step w X M w' X' {M with lg:=M.lg.sync}/\dG X' M.lg.sync c/\X'.n=X.n+X.ps.length/\X'.ps=[]:=by
 have hp:sK w X M.lg:=h.c 1;refine(Pt.Y6 hp (dG.fits hb h (by omega))).mono ?_;rintro e w' ⟨he,hp',hk⟩;have hst:=dJ.Vz (X:=X) (M:=M) (Ah:=X.gw) (F':=X.F) (A':=X.A) (c':=X.c) (n':=X.n+X.ps.length) (m':=aH.l7 X.m X.ps) (ps':=[]) (L':=M.lg.sync) h (w':=w') hp' (hk.mono fun k hk=> .inl hk) (fun k hk=> .inl hk) (.inl rfl) (fun k hk=> .inl hk);have hcur:=dG.cur hb h;refine⟨he,_,hst,⟨?_,?_,hb.l,?_⟩,rfl,rfl⟩
 ·show X.n+X.ps.length+([]:List aH.Pc).length<=_;have:=hb.n;simp;omega
 ·show M.lg.first+((Wl.cur M.lg.R M.lg.T).length+([]:List (List UInt8)).length:Nat)<=_;have:=hb.f;have:=hcur.1;simp;omega
 ·exact Pt.PZ hb.hd
theorem Zu(h:dJ w X M)(hb:dG X M.lg c)(hc:c<=4500)(A0:Option Addr)(c0:Nat)(l':List ByteArray)(hA:Src w 1 A0 l'.length (l'.map Value.string))(MG:0<l'.length->∀ad,A0=some ad->¬dN X M ad.block)(hs:∀s∈l',s.size<65536)(hl:l'.length<=9):
  Calls Tryz.prog 62 #[.pointer (some ⟨X.gp,0,none⟩),.slice A0 l'.length c0] w fun e w'=>e=.returned (.int .i64 0)/\∃X',Step w X M w' X' {M with lg:=M.lg.save l'}/\dG X' (M.lg.save l') (c+1):=by
 have hp:sK w X M.lg:=h.c 1;have hcur:=dG.cur hb h;have h1:=hb.n;have h2:=hb.f;have h3:=hp.f1;refine(Pt.YU hp (dG.fits hb h (by omega)) (Nat.zero_le _) A0 c0 l' hA (fun h0 ad e=>⟨fun hf=>MG h0 ad e ⟨1,.inl hf⟩,fun hf=>MG h0 ad e ⟨1,.inr (.inl hf)⟩⟩) hs (by omega) (by have:=hcur.1;omega) (by omega)).mono ?_;rintro e w' ⟨he,Ah,F',m',A',c',hp',hgw,hF',hk,hrow⟩
 have hst:=dJ.Vz (X:=X) (M:=M) (Ah:=Ah) (F':=F') (A':=A') (c':=c') (n':=X.n+X.ps.length+l'.length+1) (m':=m') (ps':=[]) (L':=M.lg.save l') h (w':=w') hp' (hk.mono fun k hk=>by
  rcases hk with hk|hk
  ·exact .inl hk
  ·exact .inr (.inl hk)) hF' (.inr hgw) (fun k hk=> .inr (hrow k hk))
 refine⟨he,_,hst,⟨?_,?_,?_,?_⟩⟩
 ·show X.n+X.ps.length+l'.length+1+([]:List aH.Pc).length<=_;simp;omega
 ·show M.lg.first+(Wl.cur M.lg.R M.lg.T).length+((Wl.cur [] (Pt.kM l'.length l')).length+([]:List (List UInt8)).length:Nat)<=_;have e1:=Wl.Dk [] (Pt.kM l'.length l');have e2:(Pt.kM l'.length l').length=l'.length+1:=Pt.uF _ _;have e3:=hcur.1;rw[e2]at e1;simp only[List.length_nil]at e1⊢;omega
 ·show l'.length<=_;omega
 ·exact Pt.YZ _ _

/- Part 36. -/
import Derived.Test.YtomccaocggplgaaGreatMP34
set_option linter.unusedSimpArgs false
set_option linter.unusedVariables false
set_option maxHeartbeats 32000000
set_option maxRecDepth 100000
namespace Go.Proofs.YtomccaocggplgaaGreat
open Go.RowKit
namespace vM
open aJ Ops yt gu Vn Mst nM kK
def cl(x:aG):aG:=
 if x.k=1 then {nz 1 with ep:=x.ep,ms:=x.ms,fl:=x.fl,lg:=x.lg}
 else if x.k=4 then {nz 4 with n:=x.n,at':=x.at'}
 else if x.k=5 then {nz 5 with n:=x.n}
 else if x.k=6 then {nz 6 with pin:=x.pin}
 else if x.k=7 then {nz 7 with n:=x.n}
 else{nz 8 with said:=x.said}
def MK(x:aG):Prop:=x.k=1\/x.k=4\/x.k=5\/x.k=6\/x.k=7\/x.k=8
theorem ahp(x:aG)(h:aT x=0):bl (lK x)=jg x:=by unfold lK;rw[if_pos h,jq]
def Df(w:World)(s:ByteArray)(g x y:Nat)(ys:Array Value)(B:Nat)(n:aG)(e:Ending)(W':World):Prop:=
 e=.returned (.int .i64 0)/\∃(A:Option Addr) (c:Nat) (B':Option Addr) (d:Nat) (q:RS),RB w s g x y 78 q (aK {cl n with mA:=A,mc:=c,lA:=B',lc:=d}).toArray ys W'/\aF 56 2 B W' A (cl n).ms.length c (aU (cl n).ms)/\aF 3 1 B W' B' (cl n).lg.length d (ints (cl n).lg)/\IC s q=0
theorem tJ{e:TypeId}{size B:Nat}(W:World):aF e size B W none 0 0 []:=⟨⟨by simp,.inl ⟨rfl,rfl⟩⟩,fun k hk=>by cases hk⟩
section
variable{w W:World}{s:ByteArray}{g x y:Nat}{ys:Array Value}
theorem oV(s:ByteArray){i:Nat}(h:Ops.Rest s i []):IC s (i,0)=0:=by have h6:=h.le;unfold IC;rw[if_neg (by simp),if_neg (by simp at h6;dsimp only;omega)]
theorem Dh(o:Od w g x y)(hs:s.size<=maxLen)(n:aG)(hk:MK n)(hE:aT n=0)(hU:NU n)(hb:bl s=jg n)(h:RB w s g x y 78 ((put n.k.toNat).length,0) (qm n.k) ys W)(B:Nat)(hB:B<=W.heap.size)(hBb:g<B/\x<B/\y<B)(hw:w.heap.size<=B):
  Calls Tryz.prog 78 #[.pointer (some ⟨g,0,none⟩),.pointer (some ⟨x,0,none⟩)] W (Df w s g x y ys B n):=by
 obtain⟨hu1,hu2,hu3,hu4⟩:=hU;unfold aW at hu1 hu2 hu3 hu4;rcases hk with e|e|e|e|e|e
 ·have hE2:(if aJ.chk n.ep n.ms=0 then nO n.lg else aJ.chk n.ep n.ms)=0:=by have:=hE;unfold aT at this;rwa[if_pos e]at this
  have hc:aJ.chk n.ep n.ms=0:=by
   by_cases hz:aJ.chk n.ep n.ms=0
   ·exact hz
   ·rw[if_neg hz]at hE2;exact hE2
  rw[if_pos hc]at hE2;obtain⟨hl4,hlr⟩:=IY hE2;have hR:Ops.Rest s 0 (put n.k.toNat++(dR (kV n.ep n.ms n.fl)++(put n.lg.length++((n.lg.flatMap fun i=>put i.toNat)++[])))):=⟨[],by rw[hb];unfold jg;rw[if_pos e];simp,rfl⟩;have h1:=hR.step;rw[Nat.zero_add]at h1;have h2:=h1.step;have h3:=h2.step;have hcl:=uo (ep:=n.ep) (ms:=n.ms) (fl:=n.fl) (by unfold aW;omega);have q1:=ac1 h1 (most:=65536) (by omega) (by decide);have q2:=lD h2 (most:=4) (by omega) (by decide);obtain⟨p3,hp3⟩:∃p3,(put n.k.toNat).length+(dR (kV n.ep n.ms n.fl)).length+(put n.lg.length).length=p3:=⟨_,rfl⟩;rw[hp3]at h3 q2;have hRi:∀i,Ops.Rest s (p3+((n.lg.take i).flatMap fun i=>put i.toNat).length) ((n.lg.drop i).flatMap fun i=>put i.toNat):=fun i=>by
   have h:=h3;have e9:(n.lg.flatMap fun i=>put i.toNat)=((n.lg.take i).flatMap fun i=>put i.toNat)++((n.lg.drop i).flatMap fun i=>put i.toNat):=by rw[<-List.flatMap_append,List.take_append_drop]
   rw[e9,List.append_nil]at h;exact h.step
  have hpos:adU s n.lg (p3,0) (fun i=>(p3+((n.lg.take i).flatMap fun i=>put i.toNat).length,0)):=by
   refine⟨by simp,fun i j hj=> ?_⟩;have hj4:=hlr j (lC0 hj);have hd:n.lg.drop i=j::n.lg.drop (i+1):=aJ.drop_cons hj;have h4:=hRi i;rw[hd,List.flatMap_cons]at h4;refine⟨?_,hj4.1⟩;have h5:=lD h4 (most:=3) (by omega) (by decide);rw[h5];have e8:((n.lg.take (i+1)).flatMap fun i=>put i.toNat).length=((n.lg.take i).flatMap fun i=>put i.toNat).length+(put j.toNat).length:=by rw[List.take_add_one,hj,Option.toList_some,List.flatMap_append,lA0];simp
   dsimp only;rw[e8,Nat.add_assoc]
  have hend:Ops.Rest s (p3+((n.lg.take n.lg.length).flatMap fun i=>put i.toNat).length) []:=by have:=hRi n.lg.length;rwa[List.drop_length,List.flatMap_nil]at this
  rw[e]at h;have e':n.k.toNat=1:=by rw[e];rfl
  rw[e']at q1 q2 hp3;refine(agO o hs n.ep n.fl n.ms n.lg hc (by unfold aW;omega) q1 rfl q2 hl4 hpos rfl h B hB hBb hw).mono ?_;rintro e2 W' ⟨rfl,A,c,B',d,hst,hrow,y8⟩;have ec:cl n={nz 1 with ep:=n.ep,ms:=n.ms,fl:=n.fl,lg:=n.lg}:=by unfold cl;rw[if_pos e]
  refine⟨rfl,A,c,B',d,_,?_,?_,?_,oV s hend⟩
  ·rw[ec];exact hst
  ·rw[ec];exact hrow
  ·rw[ec];exact y8
 ·have hr:iG [n.n]=0:=by have:=hE;unfold aT at this;simpa [e]using this
  have hn:=nX hr;have hR:Ops.Rest s 0 (put n.k.toNat++(put n.at'.toNat++(put n.n.toNat++[]))):=⟨[],by rw[hb];unfold jg;rw[if_neg (by omega),if_neg (by omega),if_neg (by omega),if_pos e];simp,rfl⟩;have h1:=hR.step;rw[Nat.zero_add]at h1;have h2:=h1.step;have h3:=h2.step;have q1:=Cf h1 (by omega);have q2:=lD h2 (most:=1073741824) (by omega) (by decide);rw[show qm n.k=qm 4 by rw[e]]at h;refine(agJ o hs n.at' n.n q1 hu1.1 q2 hn.1 rfl h).mono ?_;rintro e2 W' ⟨rfl,hst⟩;have ec:cl n={nz 4 with n:=n.n,at':=n.at'}:=by unfold cl;rw[if_neg (by omega),if_pos e]
  refine⟨rfl,none,0,none,0,_,?_,?_,?_,oV s h3⟩
  ·rw[ec];exact hst
  ·rw[ec];exact tJ W'
  ·rw[ec];exact tJ W'
 ·have hr:iG [n.n]=0:=by have:=hE;unfold aT at this;simpa [e]using this
  have hn:=nX hr;have hR:Ops.Rest s 0 (put n.k.toNat++(put n.n.toNat++[])):=⟨[],by rw[hb];unfold jg;rw[if_neg (by omega),if_neg (by omega),if_neg (by omega),if_neg (by omega),if_neg (by omega),if_neg (by omega)];simp,rfl⟩;have h1:=hR.step;rw[Nat.zero_add]at h1;have h2:=h1.step;have q1:=lD h1 (most:=1073741824) (by omega) (by decide);rw[show qm n.k=qm 5 by rw[e]]at h;refine(agK o hs n.n q1 hn.1 rfl h).mono ?_;rintro e2 W' ⟨rfl,hst⟩;have ec:cl n={nz 5 with n:=n.n}:=by unfold cl;rw[if_neg (by omega),if_neg (by omega),if_pos e]
  refine⟨rfl,none,0,none,0,_,?_,?_,?_,oV s h2⟩
  ·rw[ec];exact hst
  ·rw[ec];exact tJ W'
  ·rw[ec];exact tJ W'
 ·have hr:iG [n.pin.id,n.pin.left]=0:=by have:=hE;unfold aT at this;simpa [e]using this
  have hn:=wE hr;have hR:Ops.Rest s 0 (put n.k.toNat++(put n.pin.id.toNat++(put n.pin.at'.toNat++(put n.pin.left.toNat++[])))):=⟨[],by rw[hb];unfold jg;rw[if_neg (by omega),if_neg (by omega),if_neg (by omega),if_neg (by omega),if_pos e];simp,rfl⟩;have h1:=hR.step;rw[Nat.zero_add]at h1;have h2:=h1.step;have h3:=h2.step;have h4:=h3.step;have q1:=lD h1 (most:=1073741824) (by omega) (by decide);have q2:=Cf h2 (by omega);have q3:=lD h3 (most:=1073741824) (by omega) (by decide);rw[show qm n.k=qm 6 by rw[e]]at h;refine(agM o hs n.pin.id n.pin.at' n.pin.left q1 hn.1.1 q2 hu2.1 q3 hn.2.1 rfl h).mono ?_;rintro e2 W' ⟨rfl,hst⟩;have ec:cl n={nz 6 with pin:=n.pin}:=by unfold cl;rw[if_neg (by omega),if_neg (by omega),if_neg (by omega),if_pos e]
  refine⟨rfl,none,0,none,0,_,?_,?_,?_,oV s h4⟩
  ·rw[ec];exact hst
  ·rw[ec];exact tJ W'
  ·rw[ec];exact tJ W'
 ·have hr:iG [n.n]=0:=by have:=hE;unfold aT at this;simpa [e]using this
  have hn:=nX hr;have hR:Ops.Rest s 0 (put n.k.toNat++(put n.n.toNat++[])):=⟨[],by rw[hb];unfold jg;rw[if_neg (by omega),if_neg (by omega),if_neg (by omega),if_neg (by omega),if_neg (by omega),if_neg (by omega)];simp,rfl⟩;have h1:=hR.step;rw[Nat.zero_add]at h1;have h2:=h1.step;have q1:=lD h1 (most:=1073741824) (by omega) (by decide);rw[show qm n.k=qm 7 by rw[e]]at h;refine(agL o hs n.n q1 hn.1 rfl h).mono ?_;rintro e2 W' ⟨rfl,hst⟩;have ec:cl n={nz 7 with n:=n.n}:=by unfold cl;rw[if_neg (by omega),if_neg (by omega),if_neg (by omega),if_neg (by omega),if_pos e]
  refine⟨rfl,none,0,none,0,_,?_,?_,?_,oV s h2⟩
  ·rw[ec];exact hst
  ·rw[ec];exact tJ W'
  ·rw[ec];exact tJ W'
 ·have hr:saidE n.said=0:=by have:=hE;unfold aT at this;simpa [e]using this
  obtain⟨a1,a2,a3,a4⟩:=Kw hr;have hR:Ops.Rest s 0 (put n.k.toNat++(put n.said.cl.toNat++(put n.said.req.toNat++(put n.said.e.toNat++(put n.said.pin.toNat++[]))))):=⟨[],by rw[hb];unfold jg;rw[if_neg (by omega),if_neg (by omega),if_neg (by omega),if_neg (by omega),if_neg (by omega),if_pos e];simp,rfl⟩;have h1:=hR.step;rw[Nat.zero_add]at h1;have h2:=h1.step;have h3:=h2.step;have h4:=h3.step;have h5:=h4.step;have q1:=lD h1 (most:=2) (by omega) (by decide);have q2:=lD h2 (most:=1073741824) (by omega) (by decide);have q3:=lD h3 (most:=21) (by omega) (by decide);have q4:=lD h4 (most:=1073741824) (by omega) (by decide);rw[show qm n.k=qm 8 by rw[e]]at h;refine(agN o hs n.said.cl n.said.req n.said.e n.said.pin q1 a1.1 q2 a2.1 q3 a3.1 q4 a4.1 rfl h).mono ?_;rintro e2 W' ⟨rfl,hst⟩;have ec:cl n={nz 8 with said:=n.said}:=by unfold cl;rw[if_neg (by omega),if_neg (by omega),if_neg (by omega),if_neg (by omega),if_neg (by omega)]
  refine⟨rfl,none,0,none,0,_,?_,?_,?_,oV s h5⟩
  ·rw[ec];exact hst
  ·rw[ec];exact tJ W'
  ·rw[ec];exact tJ W'
end
end vM
namespace vM
open aJ Ops yt gu Vn Mst nM kK
def FD(a:Addr)(v:Value):Sem Unit:=storeVar 78 a v
theorem Ea(a:Addr)(v:Value):storeVar 78 a v=FD a v:=rfl
theorem QM(W:World)(g:Nat)(cs:Array Value):Kept (fun k=>k=g) W (W.setRow g cs):=
 ⟨rfl,rfl,rfl,by unfold World.setRow;simp,fun k hk hF=>by unfold World.setRow;rw[Array.getElem?_modify,if_neg (fun e=>hF e.symm)]⟩
theorem ahq(x:aG):(aK x).toArray.all (·.oneCell')=true:=by simp[aK,Value.oneCell']
theorem Tf{W:World}{g:Nat}{cs cs':Array Value}(h:Has W g 78 cs):Has (W.setRow g cs') g 78 cs':=by unfold Has at h⊢;unfold World.setRow;rw[Array.getElem?_modify,if_pos rfl,h];rfl
theorem QN{W:World}{rb:Nat}{cs:Array Value}(h:Has W rb 78 cs)(hs:cs.size=18)(x:aG):∃W',(FD ⟨rb,0,none⟩ (.agg (aK x).toArray)).run Tryz.prog W=.ok () W'/\Has W' rb 78 (aK x).toArray/\Kept (fun k=>k=rb) W W':=
 ⟨_,run_storeVar_row W rb _ _ _ _ h (show(Tryz.prog.info? 78).map (·.size)=some 18 by kernel_rfl) (by rw[hs];rfl) (ahq x),Tf h,QM _ _ _⟩
theorem QO(w:World)(x:aG):∃Wz W8,w.alloc (.cells (qm 0) 78)=Wz/\(FD ⟨w.heap.size,0,none⟩ (.agg (aK x).toArray)).run Tryz.prog Wz=.ok () W8/\Has W8 w.heap.size 78 (aK x).toArray/\Kept aj w W8:=by obtain⟨W8,h1,h2,h3⟩:=QN (Has.new w 78 (qm 0)) rfl x;exact⟨_,W8,rfl,h1,h2,((Kept.refl aj w).alloc _).trans h3 (fun i hi=> .inr (by rw[hi];exact Nat.le_refl _))⟩
theorem zI{w:World}{g:Nat}{x:aG}(h:Has w g 78 (aK x).toArray):(Dt ⟨g,0,none⟩).run Tryz.prog w=.ok (.agg (aK x).toArray) w:=by obtain⟨h1,h2⟩:=vJ (cs:=aK x) rfl h;rw[vI w _ h1,h2]
theorem Wy{x:aG}(hk:MK x)(hE:aT x=0)(A B:Option Addr)(c d:Nat):aT {cl x with mA:=A,mc:=c,lA:=B,lc:=d}=0/\(cl x).ms.length<=4/\(cl x).lg.length<=4:=by
 rcases hk with e|e|e|e|e|e
 ·have hE2:(if aJ.chk x.ep x.ms=0 then nO x.lg else aJ.chk x.ep x.ms)=0:=by have:=hE;unfold aT at this;rwa[if_pos e]at this
  have hc:aJ.chk x.ep x.ms=0:=by
   by_cases hz:aJ.chk x.ep x.ms=0
   ·exact hz
   ·rw[if_neg hz]at hE2;exact hE2
  have hl:nO x.lg=0:=by rwa[if_pos hc]at hE2
  have ec:cl x={nz 1 with ep:=x.ep,ms:=x.ms,fl:=x.fl,lg:=x.lg}:=by unfold cl;rw[if_pos e]
  rw[ec];refine⟨?_,(jf hc).2.2.1,(IY hl).1⟩;show(if aJ.chk x.ep x.ms=0 then nO x.lg else aJ.chk x.ep x.ms)=0;exact hE2
 ·have hr:iG [x.n]=0:=by have:=hE;unfold aT at this;simpa [e]using this
  have ec:cl x={nz 4 with n:=x.n,at':=x.at'}:=by unfold cl;rw[if_neg (by omega),if_pos e]
  rw[ec];exact⟨hr,Nat.zero_le _,Nat.zero_le _⟩
 ·have hr:iG [x.n]=0:=by have:=hE;unfold aT at this;simpa [e]using this
  have ec:cl x={nz 5 with n:=x.n}:=by unfold cl;rw[if_neg (by omega),if_neg (by omega),if_pos e]
  rw[ec];exact⟨hr,Nat.zero_le _,Nat.zero_le _⟩
 ·have hr:iG [x.pin.id,x.pin.left]=0:=by have:=hE;unfold aT at this;simpa [e]using this
  have ec:cl x={nz 6 with pin:=x.pin}:=by unfold cl;rw[if_neg (by omega),if_neg (by omega),if_neg (by omega),if_pos e]
  rw[ec];exact⟨hr,Nat.zero_le _,Nat.zero_le _⟩
 ·have hr:iG [x.n]=0:=by have:=hE;unfold aT at this;simpa [e]using this
  have ec:cl x={nz 7 with n:=x.n}:=by unfold cl;rw[if_neg (by omega),if_neg (by omega),if_neg (by omega),if_neg (by omega),if_pos e]
  rw[ec];exact⟨hr,Nat.zero_le _,Nat.zero_le _⟩
 ·have hr:saidE x.said=0:=by have:=hE;unfold aT at this;simpa [e]using this
  have ec:cl x={nz 8 with said:=x.said}:=by unfold cl;rw[if_neg (by omega),if_neg (by omega),if_neg (by omega),if_neg (by omega),if_neg (by omega)]
  rw[ec];exact⟨hr,Nat.zero_le _,Nat.zero_le _⟩
theorem WA(x:aG):(cl x).b.ops=[]/\(cl x).oA=none/\(cl x).oc=0:=by
 unfold cl;repeat' split
 all_goals exact⟨rfl,rfl,rfl⟩
attribute [local go_sem↓] vH Ea
def aeU(w:World)(n:aG)(e:Ending)(w':World):Prop:=
 ∃(A:Option Addr) (c:Nat) (B:Option Addr) (d:Nat),e=.returned (.tuple #[Mst.fU {cl n with mA:=A,mc:=c,lA:=B,lc:=d},.int .i64 0])/\aF 56 2 w.heap.size w' A (cl n).ms.length c (aU (cl n).ms)/\aF 3 1 w.heap.size w' B (cl n).lg.length d (ints (cl n).lg)/\Kept aj w w'
theorem aeV(w:World)(n:aG)(hk:MK n)(hE:aT n=0)(hU:NU n):Calls Tryz.prog 32 #[.string (lK n)] w (aeU w n):=by
 have hbl:=ahp n hE;have hsl:(lK n).size<=maxLen:=by have:=bW.EX hU;unfold maxLen;omega
 obtain⟨s,hs⟩:∃s,lK n=s:=⟨_,rfl⟩;rw[hs]at hbl hsl⊢;have ah8:1<=n.k/\n.k<=8:=by rcases hk with e|e|e|e|e|e<;>omega
 have hR:Ops.Rest s 0 (put n.k.toNat++((jg n).drop (put n.k.toNat).length)):=⟨[],by rw[hbl];unfold jg;simp,rfl⟩;have hq:=lD hR (n:=n.k.toNat) (most:=8) (by omega) (by decide);rw[Nat.zero_add]at hq;have hkc:((n.k.toNat:Nat):Int)=n.k:=by omega
 have hrd:=fun(w' W:World) (g x y:Nat) (ys:Array Value) (B:Nat) (o:Od w' g x y) (h:RB w' s g x y 78 ((put n.k.toNat).length,0) (qm n.k) ys W) (h1:B<=W.heap.size) (h2:g<B/\x<B/\y<B) (h3:w'.heap.size<=B)=>Dh o hsl n hk hE hU hbl h B h1 h2 h3;have Ub:=ah hrd;have HQ:=ah (And.intro hq hkc);have HS:=ah hsl;have oL:=ah (fun A B c d=>Wy hk hE A B c d);have hkz:(n.k==0)=false:=by simp;omega
 have hyy:∀W:World,True:=fun _=>trivial;clear hbl hsl hR hq hkc hrd hs hk hE hU ah8 hyy;obtain⟨k,hk⟩:∃k,n.k=k:=⟨_,rfl⟩;rw[hk]at Ub HQ hkz;clear hk;go_enter Tryz.func32,Tryz.ntmps32;go_wp2_with fail;refine(open_any _ _).mono ?_;rintro e w2 ⟨rfl,hr0,hk0⟩;have hy0:=(Has.new w 78 (qm 0)).kept hk0 (fun z=>z);have QL:=((Kept.refl aj w).alloc (.cells (qm 0) 78)).then hk0;rw[size_alloc]at hr0⊢;have HA:=ah (And.intro hr0 (And.intro hy0 QL));clear hr0 hy0 QL hk0;go_wp2_with fail;refine(lF w2 _ s (0,0) 8 HA.out.1 HS.out (by decide)).mono ?_;rintro e w3 ⟨rfl,hr,hk⟩;rw[HQ.out.1]at hr⊢;dsimp only at hr⊢;rw[HQ.out.2];have hg2:=HA.out.1.1.lt;have hsz2:=hk.size;have ho:Od w (w.heap.size+1) w3.heap.size w.heap.size:=⟨by omega,by omega,by omega,by omega,by omega,by omega⟩;obtain⟨Wz,W4,Aj,ac9,hx4,hk4⟩:=QO w3 (nz k)
 have hst:RB w s (w.heap.size+1) w3.heap.size w.heap.size 78 ((put k.toNat).length,0) (qm k) (qm 0) W4:=
  ⟨hr.kept hk4 (fun z=>z),hx4,(HA.out.2.1.kept hk (by omega)).kept hk4 (fun z=>z),(HA.out.2.2.trans hk (fun i hi=> .inr (by omega))).then hk4⟩
 have hbs:w3.heap.size+1<=W4.heap.size:=hx4.lt;have HB:=ah (And.intro hbs (show w.heap.size+1<w3.heap.size+1/\w3.heap.size<w3.heap.size+1/\w.heap.size<w3.heap.size+1 by omega));have HO:=ah ho;have HST:=ah hst;have q0:W4.cell? ⟨w3.heap.size,0,none⟩=some (.int .i64 k):=hx4.cell 0;unfold aK nz at ac9;dsimp only[List.length_nil]at ac9;clear hr hk hg2 hsz2 HA ho hx4 hk4 hst hbs;go_wp2_with fail;clear Aj ac9;refine(iU _ _ s _ HST.out.rd).mono ?_;rintro e w5 ⟨rfl,rfl⟩;dsimp only;go_wp2_with fail;clear q0;refine(Ub.out w W4 _ _ _ (qm 0) (w3.heap.size+1) HO.out HST.out HB.out.1 HB.out.2 (by have:=HO.out.wx;omega)).mono ?_;rintro e w6 ⟨rfl,A,c,B',d,q,hst,hrow,y8,hend⟩;have zG:=ah hst;have bZ:=ah hrow;have tZ:=ah y8;have jI:=ah hend;clear hst hrow y8 hend HST Ub;go_wp2_with fail;refine(BU _ _ s q zG.out.rd HS.out).mono ?_;rintro e w7 ⟨rfl,nG⟩;rw[jI.out];have ac':=ah (zG.out.keep nG);have wW:=ah (bZ.out.kept nG);have WB:=ah (tZ.out.kept nG);clear nG;obtain⟨m,hm⟩:∃m:aG,{cl n with mA:=A,mc:=c,lA:=B',lc:=d}=m:=⟨_,rfl⟩;have hck:=fB w7 m (by rw[<-hm];exact⟨Src.bF wW.out.1,(gJ wW.out.1).1,by have:=(oL.out A B' c d).2.1;show(cl n).ms.length<=1000;omega,Src.bF WB.out.1,(gJ WB.out.1).1,by have:=(oL.out A B' c d).2.2;show(cl n).lg.length<=1000;omega,by show Src w7 3 (cl n).oA (cl n).b.ops.length (Ops.cells (cl n).b.ops);rw[(WA n).1,(WA n).2.1];exact Src.nil _ _ _⟩);rw[show aT m=0 by rw[<-hm];exact(oL.out A B' c d).1]at hck;rw[hm]at ac';have hl:=zI ac'.out.x;have HM:=ah hm;obtain⟨cs,hcs⟩:∃cs,(aK m).toArray=cs:=⟨_,rfl⟩;unfold Mst.fU at hck;rw[hcs]at hck hl;have mY:=ah hck;have HCS:=ah hcs;clear hm hck hcs;go_wp2_with fail;clear hl;refine mY.out.mono ?_;rintro e w8 ⟨rfl,hk8⟩;have Bz:=ac'.out.keep hk8;have hl:=zI Bz.x;rw[HCS.out]at hl;obtain⟨W9,oG,hy9,hk9⟩:=QN Bz.y rfl m;rw[HCS.out]at oG;have ah9:=ah Bz;have Gg:=ah (wW.out.kept hk8);have WC:=ah (WB.out.kept hk8);have HY9:=ah hy9;have nH:=ah hk9;clear hk8 Bz hy9 hk9;go_wp2_with fail;refine bodyPost_ret (Az rfl _ _ w.heap.size _ rfl (zI HY9.out)) rfl ?_;have hlt:∀k,w3.heap.size+1<=k->¬k=w.heap.size:=fun k h1 h2=>by have:=HO.out.wx;omega
 exact⟨A,c,B',d,by rw[HM.out];rfl,⟨aC Gg.out.1 nH.out (fun k hk=>hlt k (Gg.out.2 k hk)),fun k hk=>by have:=Gg.out.2 k hk;have:=HO.out.wx;omega⟩,⟨aC WC.out.1 nH.out (fun k hk=>hlt k (WC.out.2 k hk)),fun k hk=>by have:=WC.out.2 k hk;have:=HO.out.wx;omega⟩,ah9.out.k.trans nH.out (fun k e=> .inr (by rw[e];exact Nat.le_refl _))⟩
end vM
namespace bW
open aJ Vn Mst jQ IM kK gu vM
theorem ada{x:aG}(hk:MK x)(hE:aT x=0)(s:bQ)(A B:Option Addr)(c d:Nat):bn s {cl x with mA:=A,mc:=c,lA:=B,lc:=d}=bn s x/\aP s {cl x with mA:=A,mc:=c,lA:=B,lc:=d}=aP s x:=by
 have h0:=(Wy hk hE A B c d).1;have hh:∀y:aG,aT y=0->bn s y=(if y.k=1 then mX s y else if y.k=5 then (if cO s.ms y.n=true then 0 else 7)else if y.k=4 then (if y.at'<s.hz then 18 else 0)else if y.k=6 then oC s y.pin else if y.k=7 then 0 else if y.k=8 then (if y.said.req<(toldOf s y.said.cl).req then 18 else 0)else 11):=fun y hy=>by unfold bn;rw[if_neg (by rw[hy];decide)]
 have key:∀y:aG,aT y=0->bn s y=bn s x->y.k=x.k->(x.k=1->y.ep=x.ep/\y.ms=x.ms/\y.fl=x.fl/\y.lg=x.lg)->(x.k=5\/x.k=7->y.n=x.n)->(x.k=4->y.at'=x.at')->(x.k=6->y.pin=x.pin)->(x.k=8->y.said=x.said)->bn s y=bn s x/\aP s y=aP s x:=fun y h1 h2 h3 h4 h5 h6 h7 h8=>by
  refine⟨h2,?_⟩;unfold aP;rw[h2,h3];rcases hk with e|e|e|e|e|e
  ·obtain⟨a,b,c,d⟩:=h4 e;rw[a,b,c,d];simp[e]
  ·rw[h6 e];simp[e]
  ·rw[h5 (.inl e)];simp[e]
  ·rw[h7 e];simp[e]
  ·rw[h5 (.inr e)];simp[e]
  ·rw[h8 e];simp[e]
 obtain⟨y,hy⟩:∃y:aG,{cl x with mA:=A,mc:=c,lA:=B,lc:=d}=y:=⟨_,rfl⟩;rw[hy]at h0⊢;rcases hk with e|e|e|e|e|e
 ·have ec:cl x={nz 1 with ep:=x.ep,ms:=x.ms,fl:=x.fl,lg:=x.lg}:=by unfold cl;rw[if_pos e]
  rw[ec]at hy;have k1:y.k=1:=by rw[<-hy];rfl
  refine key y h0 ?_ (k1.trans e.symm) (fun _=>by rw[<-hy];exact⟨rfl,rfl,rfl,rfl⟩) (fun h=>by omega) (fun h=>by omega) (fun h=>by omega) (fun h=>by omega);rw[hh y h0,hh x hE,if_pos k1,if_pos e,<-hy];rfl
 ·have ec:cl x={nz 4 with n:=x.n,at':=x.at'}:=by unfold cl;rw[if_neg (by omega),if_pos e]
  rw[ec]at hy;have k1:y.k=4:=by rw[<-hy];rfl
  refine key y h0 ?_ (k1.trans e.symm) (fun h=>by omega) (fun h=>by omega) (fun _=>by rw[<-hy]) (fun h=>by omega) (fun h=>by omega);rw[hh y h0,hh x hE,k1,e,<-hy];rfl
 ·have ec:cl x={nz 5 with n:=x.n}:=by unfold cl;rw[if_neg (by omega),if_neg (by omega),if_pos e]
  rw[ec]at hy;have k1:y.k=5:=by rw[<-hy];rfl
  refine key y h0 ?_ (k1.trans e.symm) (fun h=>by omega) (fun _=>by rw[<-hy]) (fun h=>by omega) (fun h=>by omega) (fun h=>by omega);rw[hh y h0,hh x hE,k1,e,<-hy];rfl
 ·have ec:cl x={nz 6 with pin:=x.pin}:=by unfold cl;rw[if_neg (by omega),if_neg (by omega),if_neg (by omega),if_pos e]
  rw[ec]at hy;have k1:y.k=6:=by rw[<-hy];rfl
  refine key y h0 ?_ (k1.trans e.symm) (fun h=>by omega) (fun h=>by omega) (fun h=>by omega) (fun _=>by rw[<-hy]) (fun h=>by omega);rw[hh y h0,hh x hE,k1,e,<-hy];rfl
 ·have ec:cl x={nz 7 with n:=x.n}:=by unfold cl;rw[if_neg (by omega),if_neg (by omega),if_neg (by omega),if_neg (by omega),if_pos e]
  rw[ec]at hy;have k1:y.k=7:=by rw[<-hy];rfl
  refine key y h0 ?_ (k1.trans e.symm) (fun h=>by omega) (fun _=>by rw[<-hy]) (fun h=>by omega) (fun h=>by omega) (fun h=>by omega);rw[hh y h0,hh x hE,k1,e];simp
 ·have ec:cl x={nz 8 with said:=x.said}:=by unfold cl;rw[if_neg (by omega),if_neg (by omega),if_neg (by omega),if_neg (by omega),if_neg (by omega)]
  rw[ec]at hy;have k1:y.k=8:=by rw[<-hy];rfl
  refine key y h0 ?_ (k1.trans e.symm) (fun h=>by omega) (fun h=>by omega) (fun h=>by omega) (fun h=>by omega) (fun _=>by rw[<-hy]);rw[hh y h0,hh x hE,k1,e,<-hy];rfl
structure WE(l:List ByteArray)(ns:List aG):Prop where
 l:l=ns.map lK
 k:∀x∈ns,MK x/\aT x=0/\NU x
theorem Us{ns:List aG}:∀{s:bQ},qA s->(∀x∈ns,NU x)->qA (Mst.runN s ns):=by
 induction ns with
 |nil=>intro s h _;exact h
 |cons a ns ih=>intro s h hu;exact ih (h.apply (hu a (List.mem_cons_self))) (fun x hx=>hu x (List.mem_cons_of_mem _ hx))
def yL(L:nR)(ns:List aG):MR:={mk0 L with st:=Mst.runN st0 ns,pins:=(Mst.runN st0 ns).pins}
def aao(w:World)(g:Nat)(F:Nat->Prop)(L:nR)(ns:List aG)(n:Nat)(e:Ending)(w':World):Prop:=
 ∃X,e=.returned (.tuple #[.pointer (some ⟨X.mb,0,none⟩),.int .i64 0])/\dJ w' X (yL L ns)/\X.g=g/\X.n=n/\X.ps=[]/\(∀k,dN X (yL L ns) k->F k\/w.heap.size<=k)/\Kept F w w'
attribute [local go_sem↓] vH Ea
theorem QS(x f:Int)(A:Option Addr)(n c:Nat)(W:World):(Instr.field 25 (.agg #[.int .i64 x,.slice A n c,.int .u64 f]) 0).run Tryz.prog W=.ok (.int .i64 x) W:=by kernel_rfl
attribute [local go_sem] QS
attribute [local go_sem] vI
theorem aap(w:World)(g n:Nat)(F:Nat->Prop)(m:aH.Safe)(aX aQ first:Int)(R':Wl.St)(k:Nat)(l:List ByteArray)(ns:List aG)(hd:aH.aZ w g F n m [] aX aQ)(hn:n<=100000)(hl:Wl.Log first R' [] m [])(hlo:Pt.qx first m [])(hh:Pt.Hd R')(ht:Wl.texts R'=Pt.kM k l)
  (hk:k<=l.length) (hkt:k+1<=(Wl.texts R').length) (hkb:k<=1073741824) (h1:1<=first) (h2:first+R'.length<=1073741824) (h3:R'.length<=100000) (hs:∀s∈l,s.size<65536) (hll:l.length<=100000) (hns:WE l ns) (mP:(Mst.runN st0 ns).ep≠0):
  Calls Tryz.prog 11 #[.pointer (some ⟨g,0,none⟩)] w (aao w g F ⟨first,R',[],l⟩ ns n):=by
 have EM:=hd.lt;have hpo:Calls Tryz.prog 30 #[.pointer (some ⟨g,0,none⟩)] w fun e w'=>∃gp gw A c m2,e=.returned (.tuple #[.pointer (some ⟨gp,0,none⟩),.int .i64 0])/\Pt.lX w' w.heap.size gp gw g F n m2 [] aX aQ first R' [] A c l/\w.heap.size<=gp/\w.heap.size<=gw/\Kept F w w':=by
  obtain⟨f1,f2,f3,f4⟩:=Pt.found hl hh ht hkb;have hif:=hlo.cu hl;have hlen:=hh.len;have e0:first+((0:Nat):Int)=first:=by omega
  refine(Pt.YW hd hn first R'.length 0 (R'.length-1) k R' hif h1 h2 hlen (fun x=>Nat.le_trans (hlo.low.size hl x) (by decide)) f1 f2 f3 (by omega) (by rw[f4,List.length_map];exact hk) (by rw[e0];exact Pt.Ii hl (by omega)) h3).mono ?_
  rintro e w' ⟨gp',Ah,A',c',he,p1,p2,p3,p4,p5,p6,p7⟩;rw[f4]at p1 p4;rw[List.length_map]at p1 p4;rw[e0]at p1 p2 p3;rw[Pt.Y1]at p4;exact⟨gp',Ah,A',c',_,he,⟨p3,p1,p2,p4,Pt.Ii hl (by omega),⟨fun x hx=>by unfold Pt.sD;rw[if_neg (by omega)],fun p hp=>by cases hp⟩,h1,⟨k,by rw[List.append_nil];exact ht,hkt⟩,hs⟩,p5,p6,p7⟩
 have zV:=ah hpo;have HNS:=ah hns;have HEP:=ah mP;have HF:=ah EM;have mO:=ah hll;clear hd hn hl hlo hh ht hk hkt hkb h1 h2 h3 hs hpo hns mP EM hll;go_enter Tryz.func11,Tryz.ntmps11;go_wp2_with fail;refine zV.out.mono ?_;rintro e w2 ⟨gp,gw,A0,c0,m2,rfl,hpt,hgp,hgw,hk2⟩;have hx0:sK w2 ⟨0,gp,gw,g,0,0,0,0,0,0,0,F,fun _=>False,none,0,none,0,A0,c0,n,m2,[],aX,aQ⟩ ⟨first,R',[],l⟩:=⟨hpt.d,hpt.p,hpt.wl,⟨hpt.row.1,fun _ _=>Nat.zero_le _⟩,hpt.log,hpt.low,hpt.f1,hpt.tx,hpt.hs⟩;have hpf:∀k,Pt.PF gp gw F A0 l.length c0 k->F k\/w.heap.size<=k:=fun k hk=>by
  rcases hk with hk|hk|hk|hk
  ·exact .inl hk
  ·exact .inr (by omega)
  ·exact .inr (by omega)
  ·exact .inr (hpt.row.2 k hk)
 have HX0:=ah hx0;have HPF:=ah hpf;have aV:=ah hk2;clear hx0 hpf hk2 hpt hgp hgw zV;go_wp2_with fail;refine(Qc _ ⟨first,R',[],l⟩ HX0.out).mono ?_;rintro e w3 ⟨X,rfl,hm,hft,hk3,D6,Qg,Iq,-,-,adb⟩;dsimp only at D6 Qg Iq adb;have hpp:Pt.lX w3 0 X.gp X.gw X.g X.F X.n X.m X.ps X.aX X.aQ first R' [] X.A X.c l:=hm.c 1
 have htx:=Pt.Vt hpp.p (Src.bF hpp.row.1) (by have:=mO.out;omega);rw[adb]at htx;obtain⟨mb,hmb⟩:∃mb,X.mb=mb:=⟨_,rfl⟩;rw[hmb];have FZ:∀k,dN X (mk0 ⟨first,R',[],l⟩) k->F k\/w.heap.size<=k:=fun k hk=>by
  rcases hft k hk with y|y
  ·exact HPF.out k y
  ·have:=aV.out.size;exact .inr (by omega)
 have Nq:=ah htx;have xC:=ah hm;have Qi:=ah FZ;have bu:=ah (aV.out.then (Kept.up hk3));have HXG:=ah (And.intro D6 (And.intro Qg Iq));have zM:=ah hmb;clear hm hft hk3 D6 Qg Iq adb hpp htx FZ hmb HX0 HPF aV;obtain⟨nl,hnl⟩:∃nl,l.length=nl:=⟨_,rfl⟩;rw[hnl]at Nq;have HNL:=ah hnl;clear hnl;go_wp2_with fail;refine Nq.out.mono ?_;rintro e w4 ⟨A1,c1,rfl,hrow,hb4⟩;have hk4:Kept aj w3 w4:=Kept.of_below hb4 (fun k hk _=>hk);have bZ:=ah hrow;have rH:=ah (Step.refl xC.out hk4);clear hrow hb4 hk4;go_wp2_with fail;go_loopw [25] (fun v25 wr=>∃(i:Nat) (uG:Nat->Prop),i<=nl/\v25=.int .i64 i/\Step w3 X (mk0 ⟨first,R',[],l⟩) wr {X with FS:=uG} {mk0 ⟨first,R',[],l⟩with st:=Mst.runN st0 (ns.take i)}/\aF 9 1 w3.heap.size wr A1 nl c1 (l.map Value.string)/\(∀k,(Value.slice A1 nl c1).ownBlock=some k->¬uG k)) (fun v25 _=>nl-(intOf v25).toNat)
 case atStart=>exact⟨0,X.FS,Nat.zero_le _,rfl,rH.out,bZ.out,fun k hk hf=>by have h1:=bZ.out.2 k hk;have h2:=xC.out.lt ⟨2,hf⟩;omega⟩
 case round=>
  obtain⟨i,uG,hi,rfl,hst,hrow,hoff⟩:=hrel;clear bZ;have HST:=ah hst;have bZ:=ah hrow;have pV:=ah hoff;clear hst hrow hoff rH;have aiV:nl<=100000:=by rw[<-HNL.out];exact mO.out
  have hnn:ns.length=nl:=by rw[<-HNL.out,HNS.out.l,List.length_map]
  by_cases hin:i<nl
  ·obtain⟨x,hx⟩:∃x,ns[i]? =some x:=⟨_,lB0 (by omega)⟩;obtain⟨hk,hE,hU⟩:=HNS.out.k x (lC0 hx);have hlx:l[i]? =some (lK x):=by rw[HNS.out.l,List.getElem?_map,hx];rfl
   have La:qA (Mst.runN st0 (ns.take i)):=Us E6 (fun y hy=>(HNS.out.k y (List.mem_of_mem_take hy)).2.2);have hstep:Mst.runN st0 (ns.take (i+1))=aP (Mst.runN st0 (ns.take i)) x:=by rw[List.take_add_one,hx,Option.toList_some,Mst.nS];rfl
   obtain⟨ad,rfl,had,hcell⟩:=(Src.bF bZ.out.1).2 (by omega);have c0:wr.cell? (ad.add i)=some (.string (lK x)):=by refine hcell i _ ?_;rw[List.getElem?_map,hlx];rfl
   have hof:=aeV wr x hk hE hU;have HOF:=ah hof;have HX:=ah (And.intro hk (And.intro hE hU));have agP:=ah La;have adX:=ah hstep;clear hx hk hE hU hlx La hstep had hcell hof hnn;go_wp2_with fail;clear c0;refine HOF.out.mono ?_;rintro e w5 ⟨A,c,B,d,rfl,hms,JU,hk5⟩;obtain⟨y,hy⟩:∃y:aG,{cl x with mA:=A,mc:=c,lA:=B,lc:=d}=y:=⟨_,rfl⟩;obtain⟨Wz,W6,Aj,wS,hy6,hk6⟩:=QO w5 y;have agQ:iR W6 y:=by have hcl:=Wy HX.out.1 HX.out.2.1 A B c d;rw[<-hy];have g1:=hms.kept hk6;have g2:=JU.kept hk6;exact⟨Src.bF g1.1,(gJ g1.1).1,by show(cl x).ms.length<=1000;omega,Src.bF g2.1,(gJ g2.1).1,by show(cl x).lg.length<=1000;omega,by show Src W6 3 (cl x).oA (cl x).b.ops.length (Ops.cells (cl x).b.ops);rw[(WA x).1,(WA x).2.1];exact Src.nil _ _ _⟩
   have hap:=ada HX.out.1 HX.out.2.1 (Mst.runN st0 (ns.take i)) A B c d;rw[hy]at hap;have hs6:Step w3 X (mk0 ⟨first,R',[],l⟩) W6 {X with FS:=uG} {mk0 ⟨first,R',[],l⟩with st:=Mst.runN st0 (ns.take i)}:=HST.out.quiet (hk5.then hk6);have q2:W6.cell? ⟨mb,2,none⟩=some (.pointer (some ⟨X.sb,0,none⟩)):=by rw[<-zM.out];exact hs6.at'.cell (i:=2) rfl
   obtain⟨u1,u2⟩:=vJ rfl hy6;obtain⟨sb,hsb⟩:∃sb,X.sb=sb:=⟨_,rfl⟩;have happ:∀W,Kept aj W6 W->Calls Tryz.prog 33 #[.pointer (some ⟨sb,0,none⟩),Mst.fU y] W fun e w'=>∃(z:Int) (QT:Nat->Prop),e=.returned (.int .i64 z)/\Step w3 X (mk0 ⟨first,R',[],l⟩) w' {X with FS:=QT} {mk0 ⟨first,R',[],l⟩with st:=Mst.runN st0 (ns.take (i+1))}/\(w'.cell? ⟨mb,2,none⟩=some (.pointer (some ⟨sb,0,none⟩))/\B6 w' ⟨w5.heap.size,0,none⟩/\xK w' ⟨w5.heap.size,0,none⟩=(aK y).toArray)/\aF 9 1 w3.heap.size w' (some ad) nl c1 (l.map Value.string)/\(∀k,(Value.slice (some ad) nl c1).ownBlock=some k->¬QT k):=fun W hW=>by
    have hsW:=hs6.quiet hW;have hrW:=(bZ.out.kept (hk5.then hk6)).kept hW;rw[<-hsb];refine(LU W X.sb uG (Mst.runN st0 (ns.take i)) y (hsW.at'.c 2) agP.out.inv.ok (agQ.kept hW)).mono ?_;rintro e w' ⟨QT,rfl,hst,hg,hk⟩;have hs7:Step w3 X (mk0 ⟨first,R',[],l⟩) w' {X with FS:=QT} {mk0 ⟨first,R',[],l⟩with st:=Mst.runN st0 (ns.take (i+1))}:=by rw[adX.out,<-hap.2];exact hsW.trans (dJ.setSt hsW.at' hst hg hk)
    refine⟨_,QT,rfl,hs7,⟨by rw[<-zM.out];exact hs7.at'.cell (i:=2) rfl,vJ rfl ((hy6.kept hW (fun z=>z)).kept hk (fun hf=>by have h1:=HST.out.at'.lt ⟨2,hf⟩;have:=hk5.size;omega))⟩,⟨aC hrW.1 hk (fun k hk2 hf=>pV.out k hk2 hf),hrW.2⟩,fun k hk2 hf=> ?_⟩;rcases hg k hf with h1|h1
    ·exact pV.out k hk2 h1
    ·have:=mD hrW.1 hk2;omega
   obtain⟨cs,hcs⟩:∃cs,(aK y).toArray=cs:=⟨_,rfl⟩;unfold Mst.fU at happ⊢;rw[hy];simp only[hcs]at happ u2 wS⊢;have ab7:=ah happ;obtain⟨nb,hnb⟩:∃nb,w5.heap.size=nb:=⟨_,rfl⟩;have TA:=ah hnb;have y0:=And.intro q2 (And.intro u1 u2);have Jq:=ah hsb;rw[hsb]at y0;clear happ hy agQ hap hs6 hy6 hk5 hk6 hms JU hcs q2 u1 u2 hnb hsb HOF HX agP adX HST;go_wp2_with fail;clear Aj wS
   go_region_held3 (fun W=>W.cell? ⟨mb,2,none⟩=some (.pointer (some ⟨sb,0,none⟩))/\B6 W ⟨w5.heap.size,0,none⟩/\xK W ⟨w5.heap.size,0,none⟩=cs)
    (first|with_reducible exact y7|with_reducible exact y0|exact y0)
    (first|(go_at_call 33;refine(ab7.out _ (by(repeat'(first|(with_reducible first|exact ak|apply au|apply ay|apply aA|apply aB)|(right;simp;done))))).mono ?_;rintro e w7 ⟨z7,QT,rfl,hs7,y7,hr7,sV⟩;have ql:=ah hs7;have HR7:=ah hr7;have HO7:=ah sV;clear hs7 hr7 sV))
   all_goals
    go_wp2
    go_roundw
    case rel=>exact⟨i+1,QT,by omega,by go_num,ql.out,HR7.out,HO7.out⟩
    case measure=>simp[intOf];omega
  ·obtain rfl:i=nl:=by omega
   have he:ns.take i=ns:=List.take_of_length_le (by omega);have hst:=HST.out;rw[he]at hst;obtain⟨s,hs⟩:∃s,Mst.runN st0 ns=s:=⟨_,rfl⟩;have La:qA s:=by rw[<-hs];exact Us E6 (fun y hy=>(HNS.out.k y hy).2.2)
   have mP:=HEP.out;rw[hs]at hst mP;have hez:(s.ep==0)=false:=by simpa using mP
   obtain⟨sb,hsb⟩:∃sb,X.sb=sb:=⟨_,rfl⟩;have q2:wr.cell? ⟨mb,2,none⟩=some (.pointer (some ⟨sb,0,none⟩)):=by rw[<-zM.out,<-hsb];exact hst.at'.cell (i:=2) rfl
   have hcf:=qO (hst.at'.c 2) La.inv.ok;rw[show({X with FS:=uG}:MX).sb=sb from hsb]at hcf;have Cb:=ah hcf;have zi:=ah hst;have HSK:=ah La;have Jq:=ah hsb;have uq:=ah hs;clear he hst hs La mP hcf hsb hnn HST bZ pV;go_wp2_with fail;clear q2;refine Cb.out.mono ?_;rintro e w6 ⟨A2,c2,rfl,hn2,hk6⟩;unfold nC;have wS:=zi.out.quiet hk6;have q2:w6.cell? ⟨mb,2,none⟩=some (.pointer (some ⟨sb,0,none⟩)):=by rw[<-zM.out,<-Jq.out];exact wS.at'.cell (i:=2) rfl
   have hpi:=FQ (wS.at'.c 2) HSK.out.inv.ok;rw[show({X with FS:=uG}:MX).sb=sb from Jq.out]at hpi;have vw:=ah hpi;have zG:=ah wS;clear hn2 hk6 wS hpi;go_wp2_with fail;clear q2;refine vw.out.mono ?_;rintro e w7 ⟨A3,c3,rfl,hn3,nG⟩;have FB:=zG.out.quiet nG;have q3:w7.cell? ⟨mb,3,none⟩=some (.slice X.pA 0 X.pc):=by rw[<-zM.out];exact FB.at'.cell (i:=3) rfl
   have qf3:w7.frozen? ⟨mb,3,none⟩=false:=by rw[<-zM.out];exact Has.frozen (FB.at'.c 0) 3
   have hfin:=FB.BZ (A:=A3) (c:=c3) (l:=s.pins) hn3.1 (fun k hk=>⟨Nat.le_trans (Nat.le_trans zG.out.k.size (Nat.le_refl _)) (hn3.2 k hk),fun hf=>by have h1:=zG.out.at'.lt hf;have h2:=hn3.2 k hk;omega⟩);have bU:=ah hfin;clear hn3 nG FB hfin;go_wp2;go_ret2;have h:=bU.out;have e9:=zM.out;subst e9;refine⟨{X with FS:=uG,pA:=A3,pc:=c3},rfl,?_,HXG.out.1,HXG.out.2.1,HXG.out.2.2,fun k hk=> ?_,bu.out.trans h.k (fun k hk=>Qi.out k hk)⟩
   ·have h2:=h.at';unfold yL;rw[uq.out];exact h2
   ·unfold yL at hk;rw[uq.out]at hk;rcases h.g k hk with y|y
    ·exact Qi.out k y
    ·have:=bu.out.size;exact .inr (by omega)

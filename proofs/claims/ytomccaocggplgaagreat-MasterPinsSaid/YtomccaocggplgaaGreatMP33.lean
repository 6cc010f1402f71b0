/- Part 34. -/
import Derived.Test.YtomccaocggplgaaGreatMP29
set_option linter.unusedSimpArgs false
set_option linter.unusedVariables false
set_option maxHeartbeats 32000000
set_option maxRecDepth 100000
namespace Go.Proofs.YtomccaocggplgaaGreat
open Go.RowKit
namespace bW
open aJ Vn Mst jQ IM kK gu
structure fG(a b:bQ):Prop where
 ep:b.ep=a.ep
 ms:b.ms=a.ms
 fl:b.fl=a.fl
 lg:b.lg=a.lg
structure J5(a b:bQ):Prop where
 ep:b.ep=a.ep
 ms:b.ms=a.ms
 fl:b.fl=a.fl
 lg:a.lg.length<=b.lg.length
structure Turn(a b:bQ):Prop where
 ep:b.ep=a.ep+1
 fl:a.fl<=b.fl
 tr:∀m∈b.ms,m.1∈b.lg->m∈a.ms/\m.1∈a.lg
def rP(a b:bQ):Prop:=J5 a b\/Turn a b
section
variable{a b c:bQ}{M:MR}{k:Nat}
theorem fG.refl(a:bQ):fG a a:=⟨rfl,rfl,rfl,rfl⟩
theorem fG.of_eq(h:b=a):fG a b:=by subst h;exact fG.refl _
theorem fG.trans(h:fG a b)(k:fG b c):fG a c:=⟨k.ep.trans h.ep,k.ms.trans h.ms,k.fl.trans h.fl,k.lg.trans h.lg⟩
theorem fG.rel(h:fG a b):rP a b:=.inl ⟨h.ep,h.ms,h.fl,by rw[h.lg];exact Nat.le_refl _⟩
theorem fG.ahm(h:fG a b)(k:rP b c):rP a c:=by
 rcases k with k|k
 ·exact .inl ⟨k.ep.trans h.ep,k.ms.trans h.ms,k.fl.trans h.fl,by rw[<-h.lg];exact k.lg⟩
 ·exact .inr ⟨by rw[k.ep,h.ep],by rw[<-h.fl];exact k.fl,fun m hm hl=>by have:=k.tr m hm hl;rw[h.ms,h.lg]at this;exact this⟩
theorem rP.thenS(h:rP a b)(k:fG b c):rP a c:=by
 rcases h with h|h
 ·exact .inl ⟨k.ep.trans h.ep,k.ms.trans h.ms,k.fl.trans h.fl,by rw[k.lg];exact h.lg⟩
 ·exact .inr ⟨k.ep.trans h.ep,by rw[k.fl];exact h.fl,fun m hm hl=>h.tr m (by rw[<-k.ms];exact hm) (by rw[<-k.lg];exact hl)⟩
theorem Ws(s:bQ)(x:aG)(h1:x.k≠1)(h5:x.k≠5):fG s (aP s x):=by
 unfold aP;split
 ·exact fG.refl _
 split
 ·exact⟨rfl,rfl,rfl,rfl⟩
 split
 ·unfold jy;split<;>exact⟨rfl,rfl,rfl,rfl⟩
 split
 ·exact⟨rfl,rfl,rfl,rfl⟩
 ·unfold jA;split
  ·exact⟨rfl,rfl,rfl,rfl⟩
  split
  ·exact⟨rfl,rfl,rfl,rfl⟩
  ·exact⟨rfl,rfl,rfl,rfl⟩
theorem SY(s:bQ)(x:aG)(h5:x.k=5):J5 s (aP s x):=by
 unfold aP;split
 ·exact⟨rfl,rfl,rfl,Nat.le_refl _⟩
 rw[if_neg (show¬x.k=1 by omega)];refine⟨rfl,rfl,rfl,?_⟩;show s.lg.length<=(kY s.lg x.n).length;unfold kY;split
 ·exact Nat.le_refl _
 ·rw[Ez,lA0];omega
theorem jD(M:MR)(x:aG):(writeM M x).st=aP M.st x:=by
 unfold writeM;split
 ·rfl
 ·rename_i h;unfold aP;rw[if_pos h]
theorem sG(M:MR)(x:aG)(h1:x.k≠1)(h5:x.k≠5):fG M.st (writeM M x).st:=by rw[jD];exact Ws _ _ h1 h5
theorem S9(M:MR)(x:aG)(h5:x.k=5):J5 M.st (writeM M x).st:=by rw[jD];exact SY _ _ h5
theorem Tc(M:MR)(l:List Int):fG M.st (iZ M l).st:=by
 induction l generalizing M with
 |nil=>exact fG.refl _
 |cons x l ih=>exact(sG M (dP x) (by show(7:Int)≠1;decide) (by show(7:Int)≠5;decide)).trans (ih (writeM M (dP x)))
theorem aad(h:bC M k):rP M.st (fF M).st:=by
 unfold fF;split
 ·exact(fG.refl _).rel
 ·rename_i h0;split
  ·exact(fG.refl _).rel
  ·rename_i h1;rw[xP];show rP M.st (writeM M (kC (dX M))).st;rw[jD];have hi:=BG (Classical.not_not.1 h0);have e:aP M.st (kC (dX M))={M.st with ep:=(dX M).ep,ms:=(dX M).l,fl:=(dX M).fl,lg:=(dX M).t}:=by unfold aP;rw[if_neg h1,if_pos (show(kC (dX M)).k=1 from rfl)];rfl
   rw[e];refine .inr ⟨hi.epv,hi.floor h.st.su.fl.2,fun m hm hl=> ?_⟩;have:=hi.ad9 hm hl;exact⟨this.1,this.2.1⟩
theorem D9(M:MR):fG M.st (eu M).st:=by
 unfold eu;split
 ·split
  ·exact sG _ _ (by show(4:Int)≠1;decide) (by show(4:Int)≠5;decide)
  ·exact fG.refl _
 ·exact fG.refl _
theorem aae(h:bC M k):rP M.st (lU M).st:=by have h1:fG M.st (bG M).st:=Tc (ny M) _;have h2:=aad h.bG;have h3:=D9 (fF (bG M));have h4:(lU M).st=(fQ M).st:=IB _ _;exact(h1.ahm h2).thenS (h3.trans (fG.of_eq h4))
theorem aaf(M:MR)(at':Int):fG M.st (jX M at').st:=by
 unfold jX;split
 ·exact fG.refl _
 split
 ·exact fG.refl _
 ·exact sG M _ (by show(6:Int)≠1;decide) (by show(6:Int)≠5;decide)
theorem Td(M:MR)(x:bD):fG M.st (dQ M x).st:=by
 unfold dQ;split
 ·exact aaf _ _
 split
 ·exact fG.refl _
 split
 ·exact sG M _ (by show(6:Int)≠1;decide) (by show(6:Int)≠5;decide)
 ·exact sG M _ (by show(7:Int)≠1;decide) (by show(7:Int)≠5;decide)
theorem aag(M:MR)(cl:Int)(x:bD):fG M.st (fV M cl x).st:=by
 unfold fV;split
 ·exact(Td M x).trans (sG _ _ (by show(8:Int)≠1;decide) (by show(8:Int)≠5;decide))
 ·exact fG.refl _
theorem aah(M:MR)(cl:Int)(x:bD):fG M.st (jC M cl x).st:=by
 unfold jC;split
 ·exact fG.refl _
 ·rw[F9];exact aag M cl x
theorem J6(M:MR)(id:Int)(x:bD):J5 M.st (iJ M id x).st:=by
 have hr:∀s:bQ,J5 s s:=fun s=>⟨rfl,rfl,rfl,Nat.le_refl _⟩;unfold iJ;split
 ·split
  ·exact hr _
  split
  ·exact S9 (jU M id x) _ rfl
  ·exact hr _
 ·split<;>exact hr _
theorem aai(M:MR)(id:Int)(x:bD):rP M.st (jm M id x).st:=by
 unfold jm;split
 ·have e:(jW (iJ M id x) id).st=(iJ M id x).st:=F9 _ _ _;rw[e];exact .inl (J6 M id x)
 ·exact .inl (J6 M id x)
theorem QE(M:MR)(i:Int)(x:bD):rP M.st (bJ M i x).st:=by
 unfold bJ;split
 ·split
  ·exact aai _ _ _
  ·exact(fG.refl _).rel
 split
 ·split
  ·exact(fG.of_eq (F9 _ _ _)).rel
  ·exact(fG.refl _).rel
 split
 ·split
  ·exact(aah _ _ _).rel
  ·exact(fG.refl _).rel
 ·exact(fG.refl _).rel
theorem QF(M:MR)(i:Int)(x:bD):rP M.st (cZ M i x).st:=by
 unfold cZ;split
 ·exact QE M i x
 ·exact(fG.refl _).rel
theorem aaj(M:MR)(i:Int):rP M.st (ni M i).st:=by unfold ni;split<;>exact(fG.refl _).rel
theorem Wu(M:MR)(i:Int):rP M.st (kN M i).st:=by unfold kN;split<;>exact(fG.refl _).rel
theorem rP.ep(h:rP a b)(h1:1<=a.ep):1<=b.ep:=by
 rcases h with h|h
 ·rw[h.ep];exact h1
 ·rw[h.ep];omega
theorem ac0{ep fl:Int}{l:List Mem}(h:aJ.chk ep l=0):bn st0 (lq ep l fl (ids l))=0:=by
 obtain⟨h1,h2,h3,h4⟩:=jf h;have hl:nO (ids l)=0:=Ai.2 ⟨(fun x hx=>by obtain⟨m,hm,rfl⟩:=BF.1 hx;exact h4.id m hm),Ox h4.nd⟩;have hn:aT (lq ep l fl (ids l))=0:=by unfold aT;rw[if_pos (show(lq ep l fl (ids l)).k=1 from rfl)];show(if chk ep l=0 then nO (ids l)else chk ep l)=0;rw[if_pos h,hl]
 unfold bn;rw[if_neg (by rw[hn];exact fun z=>z rfl),if_pos (show(lq ep l fl (ids l)).k=1 from rfl)];show mX st0 (lq ep l fl (ids l))=0;unfold mX;have e1:¬((lq ep l fl (ids l)).ep<=st0.ep):=by show¬(ep<=0);omega
 rw[if_neg e1];have e2:((lq ep l fl (ids l)).lg.any fun id=> !cO (lq ep l fl (ids l)).ms id)=false:=by show((ids l).any fun id=> !cO l id)=false;rw[List.any_eq_false];intro x hx;rw[Na.2 (BF.1 hx)];decide
 rw[e2,if_neg (by decide)];have e3:inB (lq ep l fl (ids l)).lg (oh (lq ep l fl (ids l)).ms)=true:=by show inB (ids l) (oh l)=true;obtain⟨m,r,rfl⟩:=List.exists_cons_of_ne_nil h2;unfold inB;rw[List.contains_iff_mem];exact BF.2 ⟨m,List.mem_cons_self ..,rfl⟩
 rw[e3,if_neg (by decide)]
theorem KY{ep fl:Int}{l:List Mem}(h:aJ.chk ep l=0):(sQ ep l fl).st={st0 with ep:=ep,ms:=l,fl:=fl,lg:=ids l}:=by show(writeM (mk0 nU) (lq ep l fl (ids l))).st=_;rw[jD];show aP st0 (lq ep l fl (ids l))=_;unfold aP;rw[if_neg (by rw[ac0 h];exact fun z=>z rfl),if_pos (show(lq ep l fl (ids l)).k=1 from rfl)];rfl
theorem QG:bC (mk0 nU) 0:=⟨E6,by decide,(fun p hp=>by cases hp),⟨rfl,(fun n hn=>by revert n;decide),by decide⟩,by decide,(fun i v hv=>by cases hv),(fun i v hv=>by cases hv),by decide⟩
theorem aeO{ep fl:Int}{l:List Mem}(hf:0<=fl/\fl<=aW):bC (sQ ep l fl) 0:=(QG.write (wM hf)).done
end
end bW
end Go.Proofs.YtomccaocggplgaaGreat
namespace Go.Proofs.YtomccaocggplgaaGreat
namespace Ops
open Vn
abbrev RS:=Nat×Int
def jh(s:ByteArray)(r:RS):Nat×RS:=
 if r.2≠0 then (0,r)else match Vn.get (bl s) r.1 with
  | .ok (n,j)=>(n,(j,0))
  | .error c=>(0,(r.1,(c:Int)))
def lu(s:ByteArray)(most:Nat)(r:RS):Nat×RS:=
 if(jh s r).2.2=0/\most<(jh s r).1 then (0,((jh s r).2.1,5))else jh s r
def pz(s:ByteArray)(most:Nat)(r:RS):ByteArray×RS:=
 if(jh s r).2.2≠0 then (emp,(jh s r).2)
 else if most<(jh s r).1 then (emp,((jh s r).2.1,3))
 else if s.size-(jh s r).2.1<(jh s r).1 then (emp,((jh s r).2.1,2))
 else(s.extract (jh s r).2.1 ((jh s r).2.1+(jh s r).1),((jh s r).2.1+(jh s r).1,0))
def IC(s:ByteArray)(r:RS):Int:=if r.2≠0 then r.2 else if r.1<s.size then 4 else 0
def zero:Batch:=⟨0,0,[]⟩
def Rest(s:ByteArray)(i:Nat)(l:List UInt8):Prop:=∃pre,bl s=pre++l/\pre.length=i
theorem Rest.step{s:ByteArray}{i:Nat}{x l:List UInt8}(h:Rest s i (x++l)):Rest s (i+x.length) l:=by obtain⟨pre,h1,h2⟩:=h;exact⟨pre++x,by rw[h1,List.append_assoc],by simp[h2]⟩
theorem Rest.le{s:ByteArray}{i:Nat}{l:List UInt8}(h:Rest s i l):i+l.length=s.size:=by obtain⟨pre,h1,h2⟩:=h;rw[<-bP,h1];simp[h2]
theorem Cf{s:ByteArray}{i n:Nat}{l:List UInt8}(h:Rest s i (put n++l))(hn:n<18446744073709551616):jh s (i,0)=(n,(i+(put n).length,0)):=by obtain⟨pre,h1,h2⟩:=h;have:=get_put pre l n hn;rw[List.append_assoc,<-h1,h2]at this;simp[jh,this]
theorem lD{s:ByteArray}{i n most:Nat}{l:List UInt8}(h:Rest s i (put n++l))(hn:n<=most)(hm:most<18446744073709551616):lu s most (i,0)=(n,(i+(put n).length,0)):=by unfold lu;rw[Cf h (by omega)];rw[if_neg (by simp;omega)]
theorem Wv(s:ByteArray)(i j:Nat)(h:j<=s.size)(hij:i<=j):bl (s.extract i j)=((bl s).drop i).take (j-i):=by simp[bl]
theorem ac1{s t:ByteArray}{i most:Nat}{l:List UInt8}(h:Rest s i (dR t++l))(ht:t.size<=most)(hm:most<18446744073709551616):pz s most (i,0)=(t,(i+(dR t).length,0)):=by
 have hlen:(dR t).length=(put t.size).length+t.size:=by unfold dR;rw[lA0,bP]
 have hle:=h.le;rw[lA0,hlen]at hle;have hR:Rest s i (put t.size++(bl t++l)):=by unfold dR at h;rwa[List.append_assoc]at h
 have hB:=Cf hR (by omega);obtain⟨pre,h1,h2⟩:=hR.step;unfold pz;rw[hB];simp only[ne_eq,not_true_eq_false,if_false];rw[if_neg (by omega),if_neg (by omega),hlen];have e:s.extract (i+(put t.size).length) (i+(put t.size).length+t.size)=t:=by apply ae4;rw[Wv s _ _ (by omega) (by omega),h1,<-h2,List.drop_left,Nat.add_sub_cancel_left,<-bP t,List.take_left]
 rw[e,Nat.add_assoc]
theorem IE{s:ByteArray}{q:RS}(h:q.2≠0):jh s q=(0,q):=by unfold jh;rw[if_pos h]
theorem ac2{s:ByteArray}{most:Nat}{q:RS}(h:q.2≠0):lu s most q=(0,q):=by unfold lu;rw[IE h,if_neg (fun x=>h x.1)]
theorem aak{s:ByteArray}{most:Nat}{q:RS}(h:q.2≠0):pz s most q=(emp,q):=by unfold pz;rw[IE h,if_pos h]
end Ops
end Go.Proofs.YtomccaocggplgaaGreat
namespace Go.Proofs.YtomccaocggplgaaGreat
open Go.RowKit
namespace nM
open Vn Ops
def lJ(w:World)(g:Nat)(s:ByteArray)(r:RS):Prop:=Has w g 205 #[.string s,.int .i64 r.1,.int .i64 r.2,.bool true]/\r.1<=s.size
abbrev thrown(c:Int):Ending:=.panicked [{v:=.iface 32 (.int .i64 c),recovered:=false}]
theorem agD(w:World):Calls Tryz.prog 215 #[.int .i64 0] w fun e w'=>e=.returned (.tuple #[])/\w=w':=by go_enter Tryz.func215,Tryz.ntmps215;go_wp2;go_end0;exact⟨rfl,rfl⟩
theorem aal(c:Int)(hc:c≠0)(w:World):Calls Tryz.prog 215 #[.int .i64 c] w fun e w'=>e=thrown c/\w=w':=by
 have h:(c !=0)=true:=by simpa using hc
 go_enter Tryz.func215,Tryz.ntmps215;go_wp2;exact⟨rfl,rfl,rfl⟩
theorem IG(c:Int)(w:World):Calls Tryz.prog 136 #[.bool false,.int .i64 c] w fun e w'=>e=.returned (.tuple #[])/\w=w':=by go_enter Tryz.func136,Tryz.ntmps136;go_wp2;go_end0;exact⟨rfl,rfl⟩
theorem II(c:Int)(hc:c≠0)(w:World):Calls Tryz.prog 136 #[.bool true,.int .i64 c] w fun e w'=>e=thrown c/\w=w':=by have h:=aal c hc;have H:=ah h;clear h;go_enter Tryz.func136,Tryz.ntmps136;go_wp2_with fail;refine(H.out _).mono ?_;rintro e w2 ⟨rfl,rfl⟩;go_wp2;exact⟨rfl,rfl,rfl⟩
theorem dZ{v0 v1 v2:Value}(w:World)(g:Nat)(c3:w.cell? ⟨g,3,none⟩=some (.bool true)):
  Calls Tryz.prog 137 #[.pointer (some ⟨g,0,none⟩)] w fun e w'=>e=.returned (.bool false)/\w=w':=by
 go_enter Tryz.func137,Tryz.ntmps137;go_wp2;go_ret;exact⟨rfl,rfl⟩
theorem iU(w:World)(g:Nat)(s:ByteArray)(r:RS)(h:lJ w g s r):Calls Tryz.prog 77 #[.pointer (some ⟨g,0,none⟩)] w fun e w'=>e=.returned (.int .i64 r.2)/\w=w':=by have c2:=h.1.cell 2;have c3:=h.1.cell 3;simp only[lF0,List.getElem?_cons_zero,List.getElem?_cons_succ]at c2 c3;clear h;go_enter Tryz.func77,Tryz.ntmps77;go_wp2;go_ret;exact⟨rfl,rfl⟩
theorem aeP(c:Int)(W:World):(Instr.typeAssert (.iface 32 (.int .i64 c)) 20 32 true).run Tryz.prog W=.ok (.tuple #[.int .i64 c,.bool true]) W:=by kernel_rfl
theorem KO(W:World):(Instr.typeAssert .nilIface 20 32 true).run Tryz.prog W=.ok (.tuple #[.int .i64 0,.bool false]) W:=by kernel_rfl
theorem DC(w:World)(g:Nat)(s:ByteArray)(r:RS)(c:Int)(h:lJ w g s r):Calls Tryz.prog 134 #[.pointer (some ⟨g,0,none⟩),.iface 32 (.int .i64 c)] w fun e w'=>e=.returned (.tuple #[])/\w'=w.setCell ⟨g,2,none⟩ (.int .i64 c):=by have c2:=h.1.cell 2;have f2:=h.1.frozen 2;simp only[lF0,List.getElem?_cons_zero,List.getElem?_cons_succ]at c2;clear h;have hta:=aeP c;go_enter Tryz.func134,Tryz.ntmps134;go_wp2;go_end0;exact⟨rfl,rfl⟩
theorem DF(w:World)(g:Nat):Calls Tryz.prog 134 #[.pointer (some ⟨g,0,none⟩),.nilIface] w fun e w'=>e=.returned (.tuple #[])/\w'=w:=by have hta:=KO;go_enter Tryz.func134,Tryz.ntmps134;go_wp2;go_end0;exact⟨rfl,rfl⟩
end nM
theorem J7{P:Program}{Q:Exit->Act->List Frame->World->Prop}{a:Act}{cs:List Frame}{w:World}{id:Nat}{ops:Array Oper}
  (h:∀t,wpOpsS P ops Q (Region.schedule (P.follows .mixedOrders) ops t) a cs {w with drawn:=w.drawn+1}):(Code.region id ops true).wpS P Q a cs w:=
 fun b k hb hr=>let ⟨e,a',cs',w',q,r⟩:=wp_opsS _ a cs _ (h _) b k hb hr;⟨e,a',cs',w',q,.of_steps (.one step_region_draw) r⟩
def lin(md:Region.Mode)(ops:Array Oper):Nat->Nat->Array Bool->List Nat
 |0,_,_=>[]
 |n+1,t,l=>
  match(Region.ready md ops l)[t% (Region.ready md ops l).length]? with
  |some i=>i::lin md ops n (t/(Region.ready md ops l).length) (l.setIfInBounds i true)
  |none=>[]
theorem agE(md:Region.Mode)(ops:Array Oper):∀(fuel t:Nat) (l:Array Bool),Region.linearise.go md ops fuel t l []=lin md ops fuel t l:=by
 intro fuel;induction fuel with
 |zero=>intro t l;simp[Region.linearise.go,lin]
 |succ fuel ih=>
  intro t l;simp only[Region.linearise.go]
  change (match(Region.ready md ops l)[t% (Region.ready md ops l).length]? with
   |some i=>Region.linearise.go md ops fuel (t/(Region.ready md ops l).length) (l.setIfInBounds i true) [i]
   |none=>[].reverse)=_
  unfold lin;cases(Region.ready md ops l)[t% (Region.ready md ops l).length]? with
  |none=>rfl
  |some i=>simp only;rw[linearise_go_acc,ih];rfl
theorem agF{m:Bool}{ops:Array Oper}(hm:m=true)(hs:ops.size=3)(r0:Region.ready .any ops #[false,false,false]=[0,1])(r1:Region.ready .any ops #[true,false,false]=[1])(r2:Region.ready .any ops #[false,true,false]=[0])
  (r3:Region.ready .any ops #[true,true,false]=[2]) (t:Nat):Region.schedule m ops t=[0,1,2]\/Region.schedule m ops t=[1,0,2]:=by
 have e:Region.schedule m ops t=lin .any ops 3 t #[false,false,false]:=by subst hm;simp only[Region.schedule,Bool.true_or,if_true,Region.linearise];rw[hs];exact agE _ _ _ _ _
 rw[e];unfold lin;rw[r0];rcases(show t%2=0\/t%2=1 by omega)with h|h
 ·left;have h':t% [0,1].length=0:=h;rw[h'];simp only[List.getElem?_cons_zero];have e1:(#[false,false,false]:Array Bool).setIfInBounds 0 true=#[true,false,false]:=rfl;rw[e1];unfold lin;rw[r1];have h1:∀x,x% [1].length=0:=fun x=>by simp[Nat.mod_one]
  rw[h1];simp only[List.getElem?_cons_zero];have e2:(#[true,false,false]:Array Bool).setIfInBounds 1 true=#[true,true,false]:=rfl;rw[e2];unfold lin;rw[r3];have h2:∀x,x% [2].length=0:=fun x=>by simp[Nat.mod_one]
  rw[h2];rfl
 ·right;have h':t% [0,1].length=1:=h;rw[h'];simp only[List.getElem?_cons_succ,List.getElem?_cons_zero];have e1:(#[false,false,false]:Array Bool).setIfInBounds 1 true=#[false,true,false]:=rfl;rw[e1];unfold lin;rw[r2];have h1:∀x,x% [0].length=0:=fun x=>by simp[Nat.mod_one]
  rw[h1];simp only[List.getElem?_cons_zero];have e2:(#[false,true,false]:Array Bool).setIfInBounds 0 true=#[true,true,false]:=rfl;rw[e2];unfold lin;rw[r3];have h2:∀x,x% [2].length=0:=fun x=>by simp[Nat.mod_one]
  rw[h2];rfl
theorem lY{P:Program}{Q:Exit->Act->List Frame->World->Prop}{a:Act}{cs:List Frame}{w:World}{id:Nat}{ops:Array Oper}
  (hm:P.follows .mixedOrders=true) (hs:ops.size=3) (r0:Region.ready .any ops #[false,false,false]=[0,1]) (r1:Region.ready .any ops #[true,false,false]=[1]) (r2:Region.ready .any ops #[false,true,false]=[0])
  (r3:Region.ready .any ops #[true,true,false]=[2]) (h1:wpOpsS P ops Q [0,1,2] a cs w.drew) (h2:wpOpsS P ops Q [1,0,2] a cs w.drew):(Code.region id ops true).wpS P Q a cs w:=by
 refine J7 fun t=> ?_;rcases agF (t:=t) hm hs r0 r1 r2 r3 with e|e
 ·rw[e];exact h1
 ·rw[e];exact h2
namespace nM
open Vn Ops
def Caught(w:World)(g:Nat)(c:Int)(older:List PanicEntry)(e:Ending)(u:FrameMode)(w':World):Prop:=
 e=.returned (.tuple #[])/\u=.panicking ({v:=.iface 32 (.int .i64 c),recovered:=true}::older)/\w'=w.drew.setCell ⟨g,2,none⟩ (.int .i64 c)
def Idle(w:World)(e:Ending)(u:FrameMode)(w':World):Prop:=e=.returned (.tuple #[])/\u=.returning/\w'=w.drew
theorem ac3(w:World)(B g:Nat)(s:ByteArray)(r:RS)(c:Int)(older:List PanicEntry)(h:lJ w g s r)(hB:w.cell? ⟨B,0,none⟩=some (.pointer (some ⟨g,0,none⟩))):
  CallsD Tryz.prog 218 #[.pointer (some ⟨B,0,none⟩)] (.panicking ({v:=.iface 32 (.int .i64 c),recovered:=false}::older)) w (Caught w g c older):=by
 have hst:=DC w.drew g s r c h;have hB2:w.drew.cell? ⟨B,0,none⟩=some (.pointer (some ⟨g,0,none⟩)):=hB;refine callsD_of_wpS Tryz.func218 rfl fun c₀ cs hu=> ?_;refine lY (by kernel_rfl) (by rfl) (by kernel_rfl) (by kernel_rfl) (by kernel_rfl) (by kernel_rfl) ?_ ?_
 all_goals
  simp[wpOpsS,go_sem,recoverD,hu,Tryz.ntmps218,Exit.thenS,hB2]
  refine hst.mono ?_
  rintro e w' ⟨rfl,rfl⟩
  exact⟨rfl,_,rfl,_,results_none rfl _ _ _,rfl,rfl,rfl⟩
theorem aeQ(w:World)(B g:Nat)(hB:w.cell? ⟨B,0,none⟩=some (.pointer (some ⟨g,0,none⟩))):
  CallsD Tryz.prog 218 #[.pointer (some ⟨B,0,none⟩)] .returning w (Idle w):=by
 have hst:=DF w.drew g;have hB2:w.drew.cell? ⟨B,0,none⟩=some (.pointer (some ⟨g,0,none⟩)):=hB;refine callsD_of_wpS Tryz.func218 rfl fun c₀ cs hu=> ?_;refine lY (by kernel_rfl) (by rfl) (by kernel_rfl) (by kernel_rfl) (by kernel_rfl) (by kernel_rfl) ?_ ?_
 all_goals
  simp[wpOpsS,go_sem,recoverD,hu,Tryz.ntmps218,Exit.thenS,hB2]
  refine hst.mono ?_
  rintro e w' ⟨rfl,rfl⟩
  refine⟨rfl,.returning,?_,_,results_none rfl _ _ _,rfl,rfl,rfl⟩
  cases c₀
  simp_all
theorem QH(w:World)(B g:Nat)(s:ByteArray)(r:RS)(c:Int)(older:List PanicEntry)(h:lJ w g s r)(hB:w.cell? ⟨B,0,none⟩=some (.pointer (some ⟨g,0,none⟩))):
  CallsD Tryz.prog 133 #[.pointer (some ⟨B,0,none⟩)] (.panicking ({v:=.iface 32 (.int .i64 c),recovered:=false}::older)) w (Caught w g c older):=by
 have hst:=DC w.drew g s r c h;have hB2:w.drew.cell? ⟨B,0,none⟩=some (.pointer (some ⟨g,0,none⟩)):=hB;refine callsD_of_wpS Tryz.func133 rfl fun c₀ cs hu=> ?_;refine lY (by kernel_rfl) (by rfl) (by kernel_rfl) (by kernel_rfl) (by kernel_rfl) (by kernel_rfl) ?_ ?_
 all_goals
  simp[wpOpsS,go_sem,recoverD,hu,Tryz.ntmps133,Exit.thenS,hB2]
  refine hst.mono ?_
  rintro e w' ⟨rfl,rfl⟩
  exact⟨rfl,_,rfl,_,results_none rfl _ _ _,rfl,rfl,rfl⟩
theorem aeR(w:World)(B g:Nat)(hB:w.cell? ⟨B,0,none⟩=some (.pointer (some ⟨g,0,none⟩))):
  CallsD Tryz.prog 133 #[.pointer (some ⟨B,0,none⟩)] .returning w (Idle w):=by
 have hst:=DF w.drew g;have hB2:w.drew.cell? ⟨B,0,none⟩=some (.pointer (some ⟨g,0,none⟩)):=hB;refine callsD_of_wpS Tryz.func133 rfl fun c₀ cs hu=> ?_;refine lY (by kernel_rfl) (by rfl) (by kernel_rfl) (by kernel_rfl) (by kernel_rfl) (by kernel_rfl) ?_ ?_
 all_goals
  simp[wpOpsS,go_sem,recoverD,hu,Tryz.ntmps133,Exit.thenS,hB2]
  refine hst.mono ?_
  rintro e w' ⟨rfl,rfl⟩
  refine⟨rfl,.returning,?_,_,results_none rfl _ _ _,rfl,rfl,rfl⟩
  cases c₀
  simp_all
theorem Fz(w:World)(B g:Nat)(s:ByteArray)(r:RS)(c:Int)(older:List PanicEntry)(h:lJ w g s r)(hB:w.cell? ⟨B,0,none⟩=some (.pointer (some ⟨g,0,none⟩))):
  CallsD Tryz.prog 249 #[.pointer (some ⟨B,0,none⟩)] (.panicking ({v:=.iface 32 (.int .i64 c),recovered:=false}::older)) w (Caught w g c older):=by
 have hst:=DC w.drew g s r c h;have hB2:w.drew.cell? ⟨B,0,none⟩=some (.pointer (some ⟨g,0,none⟩)):=hB;refine callsD_of_wpS Tryz.func249 rfl fun c₀ cs hu=> ?_;refine lY (by kernel_rfl) (by rfl) (by kernel_rfl) (by kernel_rfl) (by kernel_rfl) (by kernel_rfl) ?_ ?_
 all_goals
  simp[wpOpsS,go_sem,recoverD,hu,Tryz.ntmps249,Exit.thenS,hB2]
  refine hst.mono ?_
  rintro e w' ⟨rfl,rfl⟩
  exact⟨rfl,_,rfl,_,results_none rfl _ _ _,rfl,rfl,rfl⟩
theorem ac4(w:World)(B g:Nat)(hB:w.cell? ⟨B,0,none⟩=some (.pointer (some ⟨g,0,none⟩))):
  CallsD Tryz.prog 249 #[.pointer (some ⟨B,0,none⟩)] .returning w (Idle w):=by
 have hst:=DF w.drew g;have hB2:w.drew.cell? ⟨B,0,none⟩=some (.pointer (some ⟨g,0,none⟩)):=hB;refine callsD_of_wpS Tryz.func249 rfl fun c₀ cs hu=> ?_;refine lY (by kernel_rfl) (by rfl) (by kernel_rfl) (by kernel_rfl) (by kernel_rfl) (by kernel_rfl) ?_ ?_
 all_goals
  simp[wpOpsS,go_sem,recoverD,hu,Tryz.ntmps249,Exit.thenS,hB2]
  refine hst.mono ?_
  rintro e w' ⟨rfl,rfl⟩
  refine⟨rfl,.returning,?_,_,results_none rfl _ _ _,rfl,rfl,rfl⟩
  cases c₀
  simp_all
end nM
namespace nM
open Vn Ops
theorem KZ{l:List UInt8}{i c:Nat}(h:get l i=.error c):c=2\/c=4:=by
 unfold Vn.get at h;split at h
 ·injection h with h;exact .inl h.symm
 ·split at h
  ·cases h
  ·dsimp only at h;split at h
   ·injection h with h;exact .inl h.symm
   ·split at h
    ·injection h with h;exact .inr h.symm
    ·cases h
theorem lJ.kept{F:Nat->Prop}{w w':World}{g:Nat}{s:ByteArray}{r:RS}(h:lJ w g s r)(hk:Kept F w w')(hf:¬F g):lJ w' g s r:=⟨h.1.kept hk hf,h.2⟩
theorem lJ.alloc{w:World}{g:Nat}{s:ByteArray}{r:RS}(h:lJ w g s r)(o:Obj):lJ (w.alloc o) g s r:=⟨h.1.alloc o,h.2⟩
def J8(w:World)(g:Nat)(s:ByteArray)(v:Value)(r:RS)(e:Ending)(w':World):Prop:=e=.returned v/\lJ w' g s r/\Kept (fun k=>k=g) w w'
theorem QI(w:World)(g:Nat)(s:ByteArray)(i n j:Nat)(h:lJ w g s (i,0))(hs:s.size<=maxLen)(hg:get (bl s) i=.ok (n,j))(hj:j<=s.size):
  Calls Tryz.prog 135 #[.pointer (some ⟨g,0,none⟩)] w (J8 w g s (.int .u64 n) (j,0)):=by
 have hv:=CY s i h.2 hs;rw[hg]at hv;simp only[Hy]at hv;have HV:=ah hv;clear hv;have c0:=h.1.cell 0;have c1:=h.1.cell 1;have f1:=h.1.frozen 1;simp only[lF0,List.getElem?_cons_zero,List.getElem?_cons_succ]at c0 c1;have H:=ah h;clear h;have hb:=agD;have HB:=ah hb;clear hb hg;go_enter Tryz.func135,Tryz.ntmps135;go_wp2_with fail;go_quiet ((go_at_call 208;exact Calls.quiet_of_same ((HV.out _).mono fun e w' h=>⟨h.1,h.2.symm⟩)));go_wp2_with fail;refine(HB.out _).mono ?_;rintro e w2 ⟨rfl,rfl⟩;go_wp2;go_ret;exact⟨rfl,⟨Has.dH (H.out.1.drewN _) rfl,hj⟩,((Kept.refl _ _).drewN _).put (.inl rfl)⟩
theorem QJ(w:World)(g:Nat)(s:ByteArray)(i c:Nat)(h:lJ w g s (i,0))(hs:s.size<=maxLen)(hg:get (bl s) i=.error c):
  Calls Tryz.prog 135 #[.pointer (some ⟨g,0,none⟩)] w fun e w'=>e=thrown c/\lJ w' g s (i,0)/\Kept aj w w':=by
 have hc:=KZ hg;have hv:=CY s i h.2 hs;rw[hg]at hv;simp only[Hy]at hv;have HV:=ah hv;clear hv;have c0:=h.1.cell 0;have c1:=h.1.cell 1;simp only[lF0,List.getElem?_cons_zero,List.getElem?_cons_succ]at c0 c1;have H:=ah h;clear h;have hb:=aal c (by omega);have HB:=ah hb;clear hb hg;go_enter Tryz.func135,Tryz.ntmps135;go_wp2_with fail;go_quiet ((go_at_call 208;exact Calls.quiet_of_same ((HV.out _).mono fun e w' h=>⟨h.1,h.2.symm⟩)));go_wp2_with fail;refine(HB.out _).mono ?_;rintro e w2 ⟨rfl,rfl⟩;go_wp2;exact⟨rfl,rfl,⟨H.out.1.drewN _,H.out.2⟩,(Kept.refl _ _).drewN _⟩
theorem QK(n:Nat)(hn:n<=9223372036854775807)(W:World):(convert 23 3 (.int .u64 (n:Int))).run Tryz.prog W=.ok (.int .i64 n) W:=by have hw:IntKind.i64.wrap (n:Int)=n:=IntWalk.i64_in _ (by omega);simp[go_sem,hw]
theorem lF(w:World)(g:Nat)(s:ByteArray)(r:RS)(most:Nat)(h:lJ w g s r)(hs:s.size<=maxLen)(hm:most<=9223372036854775807):
  Calls Tryz.prog 76 #[.pointer (some ⟨g,0,none⟩),.int .i64 most] w (J8 w g s (.int .i64 (lu s most r).1) (lu s most r).2):=by
 have hmf:∀(fn:Fn) (first cap:Array Value) (w:World),(Instr.makeFunc fn first cap).run Tryz.prog w=.ok (.func fn first cap) w:=fun _ _ _ _=>rfl;have hgl:=h.1.lt;have H0:=ah (h.alloc (.cells #[.pointer (some ⟨g,0,none⟩)] 131));have bf:=ah ((Kept.refl (fun k=>k=g) w).alloc (.cells #[.pointer (some ⟨g,0,none⟩)] 131));have HX0:=ah (Has.new w 131 #[.pointer (some ⟨g,0,none⟩)]);obtain⟨i,e0⟩:=r;by_cases he:e0=0;rotate_left
 ·have hr:=ac2 (s:=s) (most:=most) (q:=(i,e0)) he;rw[hr];have he2:(e0 !=0)=true:=by simpa using he
  clear he hr hm hs h;go_enter_defers Tryz.func76,Tryz.ntmps76;go_wp2_with fail;refine(iU _ _ _ _ H0.out).mono ?_;rintro e w2 ⟨rfl,rfl⟩;go_wp2;exact⟨_,results_tmp rfl _ _ _,rfl,H0.out,bf.out⟩
 subst he;have hx0:=HX0.out.cell 0;simp only[lF0,List.getElem?_cons_zero]at hx0;cases hg:get (bl s) i with
 |error c=>
  have hr:lu s most (i,0)=(0,(i,(c:Int))):=by have:=KZ hg;unfold lu jh;simp[hg]
  rw[hr];have hb:=fun W (hW:lJ W g s (i,0))=>QJ W g s i c hW hs hg;have HB:=ah hb;clear hb hr hm hs h hg;go_enter_defers Tryz.func76,Tryz.ntmps76;go_wp2_with fail;refine(iU _ _ _ _ H0.out).mono ?_;rintro e w2 ⟨rfl,rfl⟩;go_wp2_with fail;refine(HB.out _ H0.out).mono ?_;rintro e w2 ⟨rfl,hr,hk⟩;have HR:=ah (And.intro hr hk);clear hr hk;go_wp2;refine leaves_cons (f:=133) (args:=#[.pointer (some ⟨w.heap.size,0,none⟩)]) (by simp) (by simp[go_sem]) ?_;refine(QH _ w.heap.size g s (i,0) c [] HR.out.1 ((HX0.out.kept HR.out.2 (fun x=>x)).cell 0)).mono ?_;rintro e u w3 ⟨rfl,rfl,rfl⟩;simp[Leaves,settle,results,Tryz.results76,go_sem];exact⟨rfl,⟨Has.dH HR.out.1.1.drew rfl,HR.out.1.2⟩,((bf.out.then (HR.out.2.mono fun _ x=>x.elim)).drew).put (.inl rfl)⟩
 |ok q=>
  obtain⟨n,j⟩:=q;obtain⟨p1,p2,p3,p4⟩:=yN hg;rw[bP]at p2;have hcv:=Hf most (by omega);have hb:=fun W (hW:lJ W g s (i,0))=>QI W g s i n j hW hs hg p2;have HB:=ah hb;clear hb;by_cases hlt:most<n
  ·have hr:lu s most (i,0)=(0,(j,5)):=by unfold lu jh;simp[hg,hlt]
   rw[hr];have hf:=II 5 (by decide);have HF:=ah hf;clear hf hr hm hs h hg p1 p2 p3 p4;go_enter_defers Tryz.func76,Tryz.ntmps76;go_wp2_with fail;refine(iU _ _ _ _ H0.out).mono ?_;rintro e w2 ⟨rfl,rfl⟩;go_wp2_with fail;refine(HB.out _ H0.out).mono ?_;rintro e w2 ⟨rfl,hr,hk⟩;have HR:=ah (And.intro hr hk);clear hr hk;have hx2:=(HX0.out.kept HR.out.2 (by omega)).cell 0;simp only[lF0,List.getElem?_cons_zero]at hx2;go_wp2_with fail;refine(HF.out _).mono ?_;rintro e w3 ⟨rfl,rfl⟩;go_wp2;refine leaves_cons (f:=133) (args:=#[.pointer (some ⟨w.heap.size,0,none⟩)]) (by simp) (by simp[go_sem]) ?_;refine(QH _ w.heap.size g s (j,0) 5 [] HR.out.1 hx2).mono ?_;rintro e u w3 ⟨rfl,rfl,rfl⟩;simp[Leaves,settle,results,Tryz.results76,go_sem];exact⟨rfl,⟨Has.dH HR.out.1.1.drew rfl,HR.out.1.2⟩,((bf.out.then HR.out.2).drew).put (.inl rfl)⟩
  ·have hr:lu s most (i,0)=(n,(j,0)):=by unfold lu jh;simp[hg,hlt]
   rw[hr];have hcv2:=QK n (by omega);have hf:=IG 5;have HF:=ah hf;clear hf hr hm hs h hg p1 p2 p3 p4;go_enter_defers Tryz.func76,Tryz.ntmps76;go_wp2_with fail;refine(iU _ _ _ _ H0.out).mono ?_;rintro e w2 ⟨rfl,rfl⟩;go_wp2_with fail;refine(HB.out _ H0.out).mono ?_;rintro e w2 ⟨rfl,hr,hk⟩;have HR:=ah (And.intro hr hk);clear hr hk;have hx2:=(HX0.out.kept HR.out.2 (by omega)).cell 0;simp only[lF0,List.getElem?_cons_zero]at hx2;go_wp2_with fail;refine(HF.out _).mono ?_;rintro e w3 ⟨rfl,rfl⟩;go_wp2;refine leaves_cons (f:=133) (args:=#[.pointer (some ⟨w.heap.size,0,none⟩)]) (by simp) (by simp[go_sem]) ?_;refine(aeR _ w.heap.size g hx2).mono ?_;rintro e u w3 ⟨rfl,rfl,rfl⟩;simp[Leaves,settle,results,Tryz.results76,go_sem];exact⟨rfl,⟨HR.out.1.1.drew,HR.out.1.2⟩,(bf.out.then HR.out.2).drew⟩
end nM
namespace nM
open Vn Ops
theorem ac5(a b:Nat)(h:b<=a)(ha:a<=9223372036854775807)(W:World):(convert 3 23 (.int .i64 ((a:Int)-b))).run Tryz.prog W=.ok (.int .u64 ((a:Int)-b)) W:=by
 have e:(a:Int)-b=((a-b:Nat):Int):=by omega
 rw[e];exact Hf _ (by omega) W
theorem ac6(w:World)(g:Nat)(s:ByteArray)(r:RS)(most:Nat)(h:lJ w g s r)(hs:s.size<=maxLen)(hm:most<=9223372036854775807):
  Calls Tryz.prog 216 #[.pointer (some ⟨g,0,none⟩),.int .i64 most] w (J8 w g s (.string (pz s most r).1) (pz s most r).2):=by
 have hmf:∀(fn:Fn) (first cap:Array Value) (w:World),(Instr.makeFunc fn first cap).run Tryz.prog w=.ok (.func fn first cap) w:=fun _ _ _ _=>rfl;have hgl:=h.1.lt;have H0:=ah (h.alloc (.cells #[.pointer (some ⟨g,0,none⟩)] 131));have bf:=ah ((Kept.refl (fun k=>k=g) w).alloc (.cells #[.pointer (some ⟨g,0,none⟩)] 131));have HX0:=ah (Has.new w 131 #[.pointer (some ⟨g,0,none⟩)]);obtain⟨i,e0⟩:=r;by_cases he:e0=0;rotate_left
 ·have hr:=aak (s:=s) (most:=most) (q:=(i,e0)) he;rw[hr];have he2:(e0 !=0)=true:=by simpa using he
  clear he hr hm hs h;go_enter_defers Tryz.func216,Tryz.ntmps216;go_wp2_with fail;refine(iU _ _ _ _ H0.out).mono ?_;rintro e w2 ⟨rfl,rfl⟩;go_wp2;exact⟨_,results_tmp rfl _ _ _,rfl,H0.out,bf.out⟩
 subst he;have hx0:=HX0.out.cell 0;simp only[lF0,List.getElem?_cons_zero]at hx0;cases hg:get (bl s) i with
 |error c=>
  have hr:pz s most (i,0)=(emp,(i,(c:Int))):=by
   have:=KZ hg;have hc:¬c=0:=by omega
   unfold pz jh;simp[hg,hc]
  rw[hr];have hb:=fun W (hW:lJ W g s (i,0))=>QJ W g s i c hW hs hg;have HB:=ah hb;clear hb hr hm hs h hg;go_enter_defers Tryz.func216,Tryz.ntmps216;go_wp2_with fail;refine(iU _ _ _ _ H0.out).mono ?_;rintro e w2 ⟨rfl,rfl⟩;go_wp2_with fail;refine(HB.out _ H0.out).mono ?_;rintro e w2 ⟨rfl,hr,hk⟩;have HR:=ah (And.intro hr hk);clear hr hk;go_wp2;refine leaves_cons (f:=249) (args:=#[.pointer (some ⟨w.heap.size,0,none⟩)]) (by simp) (by simp[go_sem]) ?_;refine(Fz _ w.heap.size g s (i,0) c [] HR.out.1 ((HX0.out.kept HR.out.2 (fun x=>x)).cell 0)).mono ?_;rintro e u w3 ⟨rfl,rfl,rfl⟩;simp[Leaves,settle,results,Tryz.results216,go_sem];exact⟨rfl,⟨Has.dH HR.out.1.1.drew rfl,HR.out.1.2⟩,((bf.out.then (HR.out.2.mono fun _ x=>x.elim)).drew).put (.inl rfl)⟩
 |ok q=>
  obtain⟨n,j⟩:=q;obtain⟨p1,p2,p3,p4⟩:=yN hg;rw[bP]at p2;have hcv:=Hf most (by omega);have hb:=fun W (hW:lJ W g s (i,0))=>QI W g s i n j hW hs hg p2;have HB:=ah hb;clear hb;unfold maxLen at hs;by_cases hlt:most<n
  ·have hr:pz s most (i,0)=(emp,(j,3)):=by unfold pz jh;simp[hg,hlt]
   rw[hr];have hf:=II 3 (by decide);have HF:=ah hf;clear hf hr hm hs h hg p1 p2 p3 p4;go_enter_defers Tryz.func216,Tryz.ntmps216;go_wp2_with fail;refine(iU _ _ _ _ H0.out).mono ?_;rintro e w2 ⟨rfl,rfl⟩;go_wp2_with fail;refine(HB.out _ H0.out).mono ?_;rintro e w2 ⟨rfl,hr,hk⟩;have HR:=ah (And.intro hr hk);clear hr hk;have hx2:=(HX0.out.kept HR.out.2 (by omega)).cell 0;simp only[lF0,List.getElem?_cons_zero]at hx2;go_wp2_with fail;refine(HF.out _).mono ?_;rintro e w3 ⟨rfl,rfl⟩;go_wp2;refine leaves_cons (f:=249) (args:=#[.pointer (some ⟨w.heap.size,0,none⟩)]) (by simp) (by simp[go_sem]) ?_;refine(Fz _ w.heap.size g s (j,0) 3 [] HR.out.1 hx2).mono ?_;rintro e u w3 ⟨rfl,rfl,rfl⟩;simp[Leaves,settle,results,Tryz.results216,go_sem];exact⟨rfl,⟨Has.dH HR.out.1.1.drew rfl,HR.out.1.2⟩,((bf.out.then HR.out.2).drew).put (.inl rfl)⟩
  have hf3:=IG 3;have HF3:=ah hf3;clear hf3;have aiT:=ac5 s.size j p2 hs;by_cases hsh:s.size-j<n
  ·have hr:pz s most (i,0)=(emp,(j,2)):=by unfold pz jh;simp[hg,hlt,hsh]
   rw[hr];have hsh2:decide ((s.size:Int)-j<n)=true:=decide_eq_true (by omega);have hf:∀W,Calls Tryz.prog 136 #[.bool (decide ((s.size:Int)-j<n)),.int .i64 2] W fun e w'=>e=thrown 2/\W=w':=by rw[hsh2];exact II 2 (by decide)
   have HF:=ah hf;clear hsh2 hf hr hm h hg p1 p3 p4 hsh;go_enter_defers Tryz.func216,Tryz.ntmps216;go_wp2_with fail;refine(iU _ _ _ _ H0.out).mono ?_;rintro e w2 ⟨rfl,rfl⟩;go_wp2_with fail;refine(HB.out _ H0.out).mono ?_;rintro e w2 ⟨rfl,hr,hk⟩;have HR:=ah (And.intro hr hk);clear hr hk;have hx2:=(HX0.out.kept HR.out.2 (by omega)).cell 0;have c0:=HR.out.1.1.cell 0;have c1:=HR.out.1.1.cell 1;simp only[lF0,List.getElem?_cons_zero,List.getElem?_cons_succ]at hx2 c0 c1;go_wp2_with fail;refine(HF3.out _).mono ?_;rintro e w3 ⟨rfl,rfl⟩;go_wp2_with fail;refine wp_region_still_tail 13 (by kernel_rfl) (by kernel_rfl) ?_;simp only[List.take_succ_cons,List.take_zero,List.drop_succ_cons,List.drop_zero];change wpStill _ _ (World.drew w2) _ _ _;repeat still_step
   refine wpStill_nil ?_;change wpList _ _ _ _ _ (World.drew w2);go_wp2_with fail;refine(HF.out _).mono ?_;rintro e w3 ⟨rfl,rfl⟩;go_wp2;refine leaves_cons (f:=249) (args:=#[.pointer (some ⟨w.heap.size,0,none⟩)]) (by simp) (by simp[go_sem]) ?_;refine(Fz _ w.heap.size g s (j,0) 2 [] ⟨HR.out.1.1.drew,HR.out.1.2⟩ hx2).mono ?_;rintro e u w3 ⟨rfl,rfl,rfl⟩;simp[Leaves,settle,results,Tryz.results216,go_sem];exact⟨rfl,⟨Has.dH HR.out.1.1.drew rfl,HR.out.1.2⟩,((bf.out.then HR.out.2).drew.drew).put (.inl rfl)⟩
  ·have hr:pz s most (i,0)=(s.extract j (j+n),(j+n,0)):=by unfold pz jh;simp[hg,hlt,hsh]
   rw[hr];have hcv2:=QK n (by omega);have hsh2:decide ((s.size:Int)-j<n)=false:=decide_eq_false (by omega);have hf:∀W,Calls Tryz.prog 136 #[.bool (decide ((s.size:Int)-j<n)),.int .i64 2] W fun e w'=>e=.returned (.tuple #[])/\W=w':=by rw[hsh2];exact IG 2
   have HF:=ah hf;clear hsh2;have hto:(j:Int)+n<=s.size:=by omega
   have hw:IntKind.i64.wrap ((j:Int)+n)=(j:Int)+n:=IntWalk.i64_in _ (by omega);have htn:((j:Int)+n).toNat=j+n:=by omega
   have ht0:(0:Int)<=(j:Int)+n:=by omega
   have ht1:(j:Int)<=(j:Int)+n:=by omega
   clear hf hr hm h hg p1 p3 p4 hsh;go_enter_defers Tryz.func216,Tryz.ntmps216;go_wp2_with fail;refine(iU _ _ _ _ H0.out).mono ?_;rintro e w2 ⟨rfl,rfl⟩;go_wp2_with fail;refine(HB.out _ H0.out).mono ?_;rintro e w2 ⟨rfl,hr,hk⟩;have HR:=ah (And.intro hr hk);clear hr hk;have hx2:=(HX0.out.kept HR.out.2 (by omega)).cell 0;have c0:=HR.out.1.1.cell 0;have c1:=HR.out.1.1.cell 1;have f1:=HR.out.1.1.frozen 1;simp only[lF0,List.getElem?_cons_zero,List.getElem?_cons_succ]at hx2 c0 c1;go_wp2_with fail;refine(HF3.out _).mono ?_;rintro e w3 ⟨rfl,rfl⟩;go_wp2_with fail;refine wp_region_still_tail 13 (by kernel_rfl) (by kernel_rfl) ?_;simp only[List.take_succ_cons,List.take_zero,List.drop_succ_cons,List.drop_zero];change wpStill _ _ (World.drew w2) _ _ _;repeat still_step
   refine wpStill_nil ?_;change wpList _ _ _ _ _ (World.drew w2);go_wp2_with fail;refine(HF.out _).mono ?_;rintro e w3 ⟨rfl,rfl⟩;go_wp2_with fail;refine wp_region_still_tail 15 (by kernel_rfl) (by kernel_rfl) ?_;simp only[List.take_succ_cons,List.take_zero,List.drop_succ_cons,List.drop_zero];change wpStill _ _ (World.drew w2.drew) _ _ _;repeat still_step
   refine wpStill_nil ?_;change wpList _ _ _ _ _ (World.drew w2.drew);go_wp2;refine leaves_cons (f:=249) (args:=#[.pointer (some ⟨w.heap.size,0,none⟩)]) (by simp) (by simp[go_sem]) ?_;refine(ac4 _ w.heap.size g ?_).mono ?_
   ·exact(((HX0.out.kept HR.out.2 (by omega)).past (by omega)).cell 0)
   rintro e u w3 ⟨rfl,rfl,rfl⟩;simp[Leaves,settle,results,Tryz.results216,go_sem];exact⟨rfl,⟨Has.dH HR.out.1.1 rfl,by omega⟩,((bf.out.then HR.out.2).put (.inl rfl)).drew.drew.drew⟩
end nM
namespace nM
open Vn Ops
theorem IJ(w:World)(g:Nat)(s:ByteArray)(r:RS)(h:lJ w g s r)(hs:s.size<=maxLen):
  Calls Tryz.prog 142 #[.pointer (some ⟨g,0,none⟩)] w (J8 w g s (.int .u64 (jh s r).1) (jh s r).2):=by
 have hmf:∀(fn:Fn) (first cap:Array Value) (w:World),(Instr.makeFunc fn first cap).run Tryz.prog w=.ok (.func fn first cap) w:=fun _ _ _ _=>rfl;have hgl:=h.1.lt;have H0:=ah (h.alloc (.cells #[.pointer (some ⟨g,0,none⟩)] 131));have bf:=ah ((Kept.refl (fun k=>k=g) w).alloc (.cells #[.pointer (some ⟨g,0,none⟩)] 131));have HX0:=ah (Has.new w 131 #[.pointer (some ⟨g,0,none⟩)]);obtain⟨i,e0⟩:=r;by_cases he:e0=0;rotate_left
 ·have hr:=IE (s:=s) (q:=(i,e0)) he;rw[hr];have he2:(e0 !=0)=true:=by simpa using he
  clear he hr hs h;go_enter_defers Tryz.func142,Tryz.ntmps142;go_wp2_with fail;refine(iU _ _ _ _ H0.out).mono ?_;rintro e w2 ⟨rfl,rfl⟩;go_wp2;exact⟨_,results_tmp rfl _ _ _,rfl,H0.out,bf.out⟩
 subst he;have hx0:=HX0.out.cell 0;simp only[lF0,List.getElem?_cons_zero]at hx0;cases hg:get (bl s) i with
 |error c=>
  have hr:jh s (i,0)=(0,(i,(c:Int))):=by unfold jh;simp[hg]
  rw[hr];have hb:=fun W (hW:lJ W g s (i,0))=>QJ W g s i c hW hs hg;have HB:=ah hb;clear hb hr hs h hg;go_enter_defers Tryz.func142,Tryz.ntmps142;go_wp2_with fail;refine(iU _ _ _ _ H0.out).mono ?_;rintro e w2 ⟨rfl,rfl⟩;go_wp2_with fail;refine(HB.out _ H0.out).mono ?_;rintro e w2 ⟨rfl,hr,hk⟩;have HR:=ah (And.intro hr hk);clear hr hk;go_wp2;refine leaves_cons (f:=218) (args:=#[.pointer (some ⟨w.heap.size,0,none⟩)]) (by simp) (by simp[go_sem]) ?_;refine(ac3 _ w.heap.size g s (i,0) c [] HR.out.1 ((HX0.out.kept HR.out.2 (fun x=>x)).cell 0)).mono ?_;rintro e u w3 ⟨rfl,rfl,rfl⟩;simp[Leaves,settle,results,Tryz.results142,go_sem];exact⟨rfl,⟨Has.dH HR.out.1.1.drew rfl,HR.out.1.2⟩,((bf.out.then (HR.out.2.mono fun _ x=>x.elim)).drew).put (.inl rfl)⟩
 |ok q=>
  obtain⟨n,j⟩:=q;obtain⟨p1,p2,p3,p4⟩:=yN hg;rw[bP]at p2;have hb:=fun W (hW:lJ W g s (i,0))=>QI W g s i n j hW hs hg p2;have HB:=ah hb;clear hb;have hr:jh s (i,0)=(n,(j,0)):=by unfold jh;simp[hg]
  rw[hr];clear hr hs h hg p1 p2 p3 p4;go_enter_defers Tryz.func142,Tryz.ntmps142;go_wp2_with fail;refine(iU _ _ _ _ H0.out).mono ?_;rintro e w2 ⟨rfl,rfl⟩;go_wp2_with fail;refine(HB.out _ H0.out).mono ?_;rintro e w2 ⟨rfl,hr,hk⟩;have HR:=ah (And.intro hr hk);clear hr hk;have hx2:=(HX0.out.kept HR.out.2 (by omega)).cell 0;simp only[lF0,List.getElem?_cons_zero]at hx2;go_wp2;refine leaves_cons (f:=218) (args:=#[.pointer (some ⟨w.heap.size,0,none⟩)]) (by simp) (by simp[go_sem]) ?_;refine(aeQ _ w.heap.size g hx2).mono ?_;rintro e u w3 ⟨rfl,rfl,rfl⟩;simp[Leaves,settle,results,Tryz.results142,go_sem];exact⟨rfl,⟨HR.out.1.1.drew,HR.out.1.2⟩,(bf.out.then HR.out.2).drew⟩
theorem ac7(w:World)(g:Nat)(s:ByteArray)(i:Nat)(h:lJ w g s (i,0))(hs:s.size<=maxLen):
  Calls Tryz.prog 143 #[.pointer (some ⟨g,0,none⟩)] w fun e w'=>e=.returned (.int .i64 ((s.size:Int)-i))/\Kept aj w w':=by
 have hi:i<=s.size:=h.2;have c0:=h.1.cell 0;have c1:=h.1.cell 1;simp only[lF0,List.getElem?_cons_zero,List.getElem?_cons_succ]at c0 c1;have he:=iU w g s (i,0) h;have HE:=ah he;clear he h;unfold maxLen at hs;go_enter Tryz.func143,Tryz.ntmps143;go_wp2_with fail;refine HE.out.mono ?_;rintro e w2 ⟨rfl,rfl⟩;go_wp2_with fail;go_quiet (fail);go_wp2;go_ret;exact⟨rfl,(Kept.refl _ _).drewN _⟩
theorem BU(w:World)(g:Nat)(s:ByteArray)(r:RS)(h:lJ w g s r)(hs:s.size<=maxLen):
  Calls Tryz.prog 79 #[.pointer (some ⟨g,0,none⟩)] w fun e w'=>e=.returned (.int .i64 (IC s r))/\Kept aj w w':=by
 obtain⟨i,e0⟩:=r;have he:=iU w g s (i,e0) h;have HE:=ah he;clear he;unfold IC;dsimp only;by_cases h0:e0=0;rotate_left
 ·rw[if_pos h0];have h2:(e0 !=0)=true:=by simpa using h0
  clear h h0;go_enter Tryz.func79,Tryz.ntmps79;go_wp2_with fail;refine HE.out.mono ?_;rintro e w2 ⟨rfl,rfl⟩;go_wp2;go_ret;exact⟨rfl,Kept.refl _ _⟩
 subst h0;rw[if_neg (by simp)];have hl:=ac7 w g s i h hs;have HL:=ah hl;clear hl;have hi:i<=s.size:=h.2;clear h;by_cases hlt:i<s.size
 ·rw[if_pos hlt];have hp:(0:Int)<(s.size:Int)-i:=by omega
  go_enter Tryz.func79,Tryz.ntmps79;go_wp2_with fail;refine HE.out.mono ?_;rintro e w2 ⟨rfl,rfl⟩;go_wp2_with fail;refine HL.out.mono ?_;rintro e w2 ⟨rfl,hk⟩;have HK:=ah hk;clear hk;go_wp2;go_ret;exact⟨rfl,HK.out⟩
 ·rw[if_neg hlt];have hp:¬(0:Int)<(s.size:Int)-i:=by omega
  go_enter Tryz.func79,Tryz.ntmps79;go_wp2_with fail;refine HE.out.mono ?_;rintro e w2 ⟨rfl,rfl⟩;go_wp2_with fail;refine HL.out.mono ?_;rintro e w2 ⟨rfl,hk⟩;have HK:=ah hk;clear hk;go_wp2;go_ret;exact⟨rfl,HK.out⟩
theorem open_any(w:World)(s:ByteArray):Calls Tryz.prog 75 #[.string s] w fun e w'=>e=.returned (.pointer (some ⟨w.heap.size,0,none⟩))/\lJ w' w.heap.size s (0,0)/\Kept aj w w':=by go_enter Tryz.func75,Tryz.ntmps75;go_wp2;go_ret;exact⟨rfl,⟨Has.new _ _ _,Nat.zero_le _⟩,(Kept.refl _ _).alloc _⟩

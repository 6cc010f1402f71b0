/- Part 43. -/
import Derived.Test.YtgbigpdiacjbgaaGreatKP09
set_option linter.unusedSimpArgs false
set_option linter.unusedVariables false
set_option maxHeartbeats 32000000
set_option maxRecDepth 100000
namespace Go.Proofs.YtgbigpdiacjbgaaGreat
open Go.RowKit
namespace Ask
open bg Ops fG eP MO Vn
attribute [local go_sem↓] bW cZ
structure DX where
 b:Nat
 bA:Option Addr
 bc:Nat
 pA:Option Addr
 pc:Nat
 rA:Option Addr
 rc:Nat
def lC(X:DX)(t:TS):List Value:=[.int .i64 t.cl,.int .i64 t.rq,.slice X.bA t.bo.length X.bc,.int .i64 t.a.k,.int .i64 t.a.nd,.string t.a.key,.string t.a.to,.int .u64 t.a.at',.int .i64 t.a.n,.slice none 0 0,.int .i64 t.ph,.int .u64 t.at',.string t.key,.slice X.pA t.ps.length X.pc,.int .i64 t.waits,.bool t.dn,
 .int .i64 t.r.req,.int .i64 t.r.e,.int .u64 t.r.at',.int .i64 t.r.pin,.slice X.rA t.r.ps.length X.rc]
structure kS(w:World)(X:DX)(t:TS):Prop where
 b:Has w X.b 136 (lC X t).toArray
 bo:w.ownsRow 0 143 3 (.slice X.bA t.bo.length X.bc) t.bo.length (cells t.bo)
 p:w.ownsRow 0 84 2 (.slice X.pA t.ps.length X.pc) t.ps.length (bI t.ps)
 r:w.ownsRow 0 84 2 (.slice X.rA t.r.ps.length X.rc) t.r.ps.length (bI t.r.ps)
 nd:t.dn=false->t.r=oH/\X.rA=none/\X.rc=0
def dN(X:DX)(t:TS)(k:Nat):Prop:=k=X.b\/(Value.slice X.pA t.ps.length X.pc).ownBlock=some k\/(Value.slice X.bA t.bo.length X.bc).ownBlock=some k\/(Value.slice X.rA t.r.ps.length X.rc).ownBlock=some k
section
variable{w w':World}{X:DX}{t:TS}{G:Nat->Prop}
theorem kS.lQ(h:kS w X t)(hk:Kept G w w')(hs:∀k,dN X t k->¬G k):kS w' X t:=
 ⟨h.b.kept hk (hs _ (.inl rfl)),aP h.bo hk (fun k hk=>hs k (.inr (.inr (.inl hk)))),aP h.p hk (fun k hk=>hs k (.inr (.inl hk))),aP h.r hk (fun k hk=>hs k (.inr (.inr (.inr hk)))),h.nd⟩
theorem kS.quiet(h:kS w X t)(hk:Kept aj w w'):kS w' X t:=h.lQ hk (fun _ _ z=>z)
theorem kS.lt(h:kS w X t){k:Nat}(hf:dN X t k):k<w.heap.size:=by
 rcases hf with rfl|hf|hf|hf
 ·exact h.b.lt
 ·exact jB h.p hf
 ·exact jB h.bo hf
 ·exact jB h.r hf
theorem kS.upd{t':TS}(h:kS w X t)(hk:Kept (fun k=>k=X.b) w w')(hb:Has w' X.b 136 (lC X t').toArray)(pX:t'.bo=t.bo)(hps:t'.ps=t.ps)(hr:t'.r=t.r)(hd:t'.dn=t.dn):kS w' X t':=by
 have hne:∀{e:TypeId} {size n:Nat} {v:Value} {xs:List Value},w.ownsRow 0 e size v n xs->e≠136->w'.ownsRow 0 e size v n xs:=fun ho he=>aP ho hk (fun k hk2 e2=>own_ne ho h.b he (e2▸hk2));refine⟨hb,?_,?_,?_,?_⟩
 ·rw[pX];exact hne h.bo (by decide)
 ·rw[hps];exact hne h.p (by decide)
 ·rw[hr];exact hne h.r (by decide)
 ·rw[hd,hr];exact h.nd
theorem Eu(w:World)(i:Int):Calls Tryz.prog 80 #[.int .i64 i] w fun e w'=>e=.returned (.bool (decide (0<=i/\i<4)))/\w=w':=by
 obtain⟨v,hv⟩:∃v,decide (0<=i/\i<4)=v:=⟨_,rfl⟩;rw[hv];go_enter Tryz.func80,Tryz.ntmps80;by_cases h0:0<=i
 ·by_cases h1:i<4
  ·go_wp2;go_ret;exact⟨by rw[<-hv];simp[h0,h1],rfl⟩
  ·go_wp2;go_ret;exact⟨by rw[<-hv];simp[h0,h1],rfl⟩
 ·go_wp2;go_ret;exact⟨by rw[<-hv];simp;omega,rfl⟩
theorem JD(h:kS w X t)(hok:mV t):Calls Tryz.prog 118 #[.pointer (some ⟨X.b,0,none⟩)] w fun e w'=>e=.returned (.int .i64 (mZ t))/\Kept aj w w':=by
 have hg:=h.b;obtain⟨gb,hgb⟩:∃gb,X.b=gb:=⟨_,rfl⟩;rw[hgb]at hg⊢;have q1:w.cell? ⟨gb,8,none⟩=some (.int .i64 t.a.n):=hg.cell 8;have q2:w.cell? ⟨gb,13,none⟩=some (.slice X.pA t.ps.length X.pc):=hg.cell 13;have hi:=hok.i64;obtain⟨d,hd⟩:∃d,t.a.n-(t.ps.length:Int)=d:=⟨_,rfl⟩;rw[hd]at hi;have hl:t.ps.length<=9223372036854775807:=by have:=hok.ps.1;omega
 have hwr:IntKind.i64.wrap (t.a.n-(t.ps.length:Int))=d:=by rw[hd];exact IntWalk.i64_in _ hi
 have hmn:=rU 2 d _ rfl;have hs:mZ t=min 2 d:=by unfold mZ;rw[hd]
 rw[hs];clear h hg hd hs hok;go_enter Tryz.func118,Tryz.ntmps118;go_wp2;go_quiet (fail);go_wp2;go_ret;exact⟨rfl,by(repeat'(first|(with_reducible first|exact ay|apply aA|apply aB|apply aC|apply aF)|(right;simp;done)))⟩
def iE(w:World)(X:DX)(t:TS)(v:Value)(t':TS)(e:Ending)(w':World):Prop:=
 e=.returned v/\∃X',kS w' X' t'/\X'.b=X.b/\(∀k,dN X' t' k->dN X t k\/w.heap.size<=k)/\Kept (dN X t) w w'
theorem iE.same{v:Value}(h:kS w X t){w2:World}(hk:Kept aj w w2):iE w X t v t (.returned v) w2:=⟨rfl,X,h.quiet hk,rfl,fun k hk=> .inl hk,hk.mono (fun _ z=>z.elim)⟩
theorem G6{r:o8}{A:Option Addr}{c:Nat}(hr:∀k,(Value.slice A r.ps.length c).ownBlock=some k->dN X t k\/w.heap.size<=k){k:Nat}(hk:dN {X with rA:=A,rc:=c} (eG t r) k):dN X t k\/w.heap.size<=k:=by
 rcases hk with e|e|e|e
 ·exact .inl (.inl e)
 ·exact .inl (.inr (.inl e))
 ·exact .inl (.inr (.inr (.inl e)))
 ·exact hr k e
theorem iE.zQ{t':TS}{r:o8}{A:Option Addr}{c:Nat}{w1 w2:World}{v:Value}(hk:Kept (dN X t) w w1)(h2:kS w2 {X with rA:=A,rc:=c} (eG t' r))(hk2:Kept (fun k=>k=X.b) w1 w2)
  (hf:∀k,dN {X with rA:=A,rc:=c} (eG t' r) k->dN X t k\/w.heap.size<=k):iE w X t v (eG t' r) (.returned v) w2:=
 ⟨rfl,_,h2,rfl,hf,hk.then (hk2.mono (fun k e=> .inl e))⟩
theorem og(h:kS w X t)(r:o8)(A:Option Addr)(c:Nat)(hr:w.ownsRow 0 84 2 (.slice A r.ps.length c) r.ps.length (bI r.ps)):
  Calls Tryz.prog 76 #[.pointer (some ⟨X.b,0,none⟩),nV r A c] w fun e w'=>e=.returned (.tuple #[])/\kS w' {X with rA:=A,rc:=c} (eG t r)/\Kept (fun k=>k=X.b) w w':=by
 obtain⟨bb,bA,bc,pA,pc,rA,rc⟩:=X;obtain⟨W0,hW0⟩:∃W0,w.alloc (.cells (iO r A c).toArray 36)=W0:=⟨_,rfl⟩;have hk0:Kept aj w W0:=by rw[<-hW0];(repeat'(first|(with_reducible first|exact ay|apply aA|apply aB|apply aC|apply aF)|(right;simp;done)))
 have hn0:Has W0 w.heap.size 36 (iO r A c).toArray:=by rw[<-hW0];exact Has.new _ _ _
 have hne:w.heap.size≠bb:=fun e=>by have:=h.b.lt;dsimp only at this;omega
 have hb0:=h.b.kept hk0 (fun z=>z);have hh:∀w',Has w' bb 136 (lC ⟨bb,bA,bc,pA,pc,A,c⟩ (eG t r)).toArray->Kept (fun k=>k=bb) W0 w'->kS w' ⟨bb,bA,bc,pA,pc,A,c⟩ (eG t r)/\Kept (fun k=>k=bb) w w':=fun w' hb hk=>by have hkk:=(hk0.mono (G:=fun k=>k=bb) (fun _ z=>z.elim)).then hk;exact⟨⟨hb,aP h.bo hkk (fun k hk2 e2=>own_ne h.bo h.b (by decide) (e2▸hk2)),aP h.p hkk (fun k hk2 e2=>own_ne h.p h.b (by decide) (e2▸hk2)),aP hr hkk (fun k hk2 e2=>own_ne hr h.b (by decide) (e2▸hk2)),fun e=>by cases e⟩,hkk⟩
 have HH:=ah hh;unfold lC at hb0;dsimp only at hb0;have b1:W0.cell? ⟨bb,1,none⟩=some (.int .i64 t.rq):=hb0.cell 1;have b15:W0.cell? ⟨bb,15,none⟩=some (.bool t.dn):=hb0.cell 15;have b16:W0.cell? ⟨bb,16,none⟩=some (.int .i64 t.r.req):=hb0.cell 16;have b17:W0.cell? ⟨bb,17,none⟩=some (.int .i64 t.r.e):=hb0.cell 17;have b18:W0.cell? ⟨bb,18,none⟩=some (.int .u64 t.r.at'):=hb0.cell 18;have b19:W0.cell? ⟨bb,19,none⟩=some (.int .i64 t.r.pin):=hb0.cell 19;have b20:W0.cell? ⟨bb,20,none⟩=some (.slice rA t.r.ps.length rc):=hb0.cell 20;have f15:=hb0.frozen 15;have f16:=hb0.frozen 16;have f17:=hb0.frozen 17;have f18:=hb0.frozen 18;have f19:=hb0.frozen 19;have f20:=hb0.frozen 20;have a0:W0.cell? ⟨w.heap.size,0,none⟩=some (.int .i64 r.req):=hn0.cell 0;have a1:W0.cell? ⟨w.heap.size,1,none⟩=some (.int .i64 r.e):=hn0.cell 1;have a2:W0.cell? ⟨w.heap.size,2,none⟩=some (.int .u64 r.at'):=hn0.cell 2;have a3:W0.cell? ⟨w.heap.size,3,none⟩=some (.int .i64 r.pin):=hn0.cell 3;have a4:W0.cell? ⟨w.heap.size,4,none⟩=some (.slice A r.ps.length c):=hn0.cell 4;have HB0:=ah hb0;unfold iO at hW0;unfold nV iO;clear hh hk0 hn0 hb0 h hr;go_enter Tryz.func76,Tryz.ntmps76;go_wp2;go_end0;refine⟨rfl,HH.out _ ?_ ?_⟩
 ·have e9:(lC ⟨bb,bA,bc,pA,pc,A,c⟩ (eG t r)).toArray=#[.int .i64 t.cl,.int .i64 t.rq,.slice bA t.bo.length bc,.int .i64 t.a.k,.int .i64 t.a.nd,.string t.a.key,.string t.a.to,.int .u64 t.a.at',.int .i64 t.a.n,.slice none 0 0,.int .i64 t.ph,.int .u64 t.at',.string t.key,.slice pA t.ps.length pc,.int .i64 t.waits,.bool true,.int .i64 t.rq,.int .i64 r.e,.int .u64 r.at',.int .i64 r.pin,.slice A r.ps.length c]:=rfl;rw[e9];have g1:=Has.aQ (cs':=#[.int .i64 t.cl,.int .i64 t.rq,.slice bA t.bo.length bc,.int .i64 t.a.k,.int .i64 t.a.nd,.string t.a.key,.string t.a.to,.int .u64 t.a.at',.int .i64 t.a.n,.slice none 0 0,.int .i64 t.ph,.int .u64 t.at',.string t.key,.slice pA t.ps.length pc,.int .i64 t.waits,.bool true,.int .i64 t.r.req,.int .i64 t.r.e,.int .u64 t.r.at',.int .i64 t.r.pin,.slice rA t.r.ps.length rc]) (i:=15) (u:=.bool true) HB0.out rfl;have g2:=Has.aQ (cs':=#[.int .i64 t.cl,.int .i64 t.rq,.slice bA t.bo.length bc,.int .i64 t.a.k,.int .i64 t.a.nd,.string t.a.key,.string t.a.to,.int .u64 t.a.at',.int .i64 t.a.n,.slice none 0 0,.int .i64 t.ph,.int .u64 t.at',.string t.key,.slice pA t.ps.length pc,.int .i64 t.waits,.bool true,.int .i64 r.req,.int .i64 t.r.e,.int .u64 t.r.at',.int .i64 t.r.pin,.slice rA t.r.ps.length rc]) (i:=16) (u:=.int .i64 r.req) g1 rfl;have g3:=Has.aQ (cs':=#[.int .i64 t.cl,.int .i64 t.rq,.slice bA t.bo.length bc,.int .i64 t.a.k,.int .i64 t.a.nd,.string t.a.key,.string t.a.to,.int .u64 t.a.at',.int .i64 t.a.n,.slice none 0 0,.int .i64 t.ph,.int .u64 t.at',.string t.key,.slice pA t.ps.length pc,.int .i64 t.waits,.bool true,.int .i64 r.req,.int .i64 r.e,.int .u64 t.r.at',.int .i64 t.r.pin,.slice rA t.r.ps.length rc]) (i:=17) (u:=.int .i64 r.e) g2 rfl;have g4:=Has.aQ (cs':=#[.int .i64 t.cl,.int .i64 t.rq,.slice bA t.bo.length bc,.int .i64 t.a.k,.int .i64 t.a.nd,.string t.a.key,.string t.a.to,.int .u64 t.a.at',.int .i64 t.a.n,.slice none 0 0,.int .i64 t.ph,.int .u64 t.at',.string t.key,.slice pA t.ps.length pc,.int .i64 t.waits,.bool true,.int .i64 r.req,.int .i64 r.e,.int .u64 r.at',.int .i64 t.r.pin,.slice rA t.r.ps.length rc]) (i:=18) (u:=.int .u64 r.at') g3 rfl;have g5:=Has.aQ (cs':=#[.int .i64 t.cl,.int .i64 t.rq,.slice bA t.bo.length bc,.int .i64 t.a.k,.int .i64 t.a.nd,.string t.a.key,.string t.a.to,.int .u64 t.a.at',.int .i64 t.a.n,.slice none 0 0,.int .i64 t.ph,.int .u64 t.at',.string t.key,.slice pA t.ps.length pc,.int .i64 t.waits,.bool true,.int .i64 r.req,.int .i64 r.e,.int .u64 r.at',.int .i64 r.pin,.slice rA t.r.ps.length rc]) (i:=19) (u:=.int .i64 r.pin) g4 rfl;have g6:=Has.aQ (cs':=#[.int .i64 t.cl,.int .i64 t.rq,.slice bA t.bo.length bc,.int .i64 t.a.k,.int .i64 t.a.nd,.string t.a.key,.string t.a.to,.int .u64 t.a.at',.int .i64 t.a.n,.slice none 0 0,.int .i64 t.ph,.int .u64 t.at',.string t.key,.slice pA t.ps.length pc,.int .i64 t.waits,.bool true,.int .i64 r.req,.int .i64 r.e,.int .u64 r.at',.int .i64 r.pin,.slice A r.ps.length c]) (i:=20) (u:=.slice A r.ps.length c) g5 rfl;have g7:=Has.aQ (cs':=#[.int .i64 t.cl,.int .i64 t.rq,.slice bA t.bo.length bc,.int .i64 t.a.k,.int .i64 t.a.nd,.string t.a.key,.string t.a.to,.int .u64 t.a.at',.int .i64 t.a.n,.slice none 0 0,.int .i64 t.ph,.int .u64 t.at',.string t.key,.slice pA t.ps.length pc,.int .i64 t.waits,.bool true,.int .i64 t.rq,.int .i64 r.e,.int .u64 r.at',.int .i64 r.pin,.slice A r.ps.length c]) (i:=16) (u:=.int .i64 t.rq) g6 rfl;first|exact g7|exact g7.drew
 ·(repeat'(first|(with_reducible first|exact ay|apply aA|apply aB|apply aC|apply aF)|(exact .inl rfl)|(right;simp;done)))
theorem V8(h:kS w X t):Calls Tryz.prog 77 #[.pointer (some ⟨X.b,0,none⟩)] w fun e w'=>∃A c,e=.returned (.tuple #[nV (pO t) A c,.bool t.dn])/\Src w' 2 A (pO t).ps.length (bI (pO t).ps)/\Kept aj w w'/\(t.dn=true->A=X.rA):=by
 obtain⟨W0,hW0⟩:∃W0,w.alloc (.cells #[.int .i64 0,.int .i64 0,.int .u64 0,.int .i64 0,.slice none 0 0] 36)=W0:=⟨_,rfl⟩;have hk0:Kept aj w W0:=by rw[<-hW0];(repeat'(first|(with_reducible first|exact ay|apply aA|apply aB|apply aC|apply aF)|(right;simp;done)))
 have hn0:Has W0 w.heap.size 36 (iO oH none 0).toArray:=by rw[<-hW0];exact Has.new _ _ _
 have h0:=h.quiet hk0;have hb:=h0.b;obtain⟨bb,hbb⟩:∃bb,X.b=bb:=⟨_,rfl⟩;rw[hbb]at hb⊢;obtain⟨rb,hrb⟩:∃rb,w.heap.size=rb:=⟨_,rfl⟩;rw[hrb]at hn0;have hne:bb≠rb:=fun e=>Has.ne hb hn0 (by decide) e;have b15:W0.cell? ⟨bb,15,none⟩=some (.bool t.dn):=hb.cell 15;have b16:W0.cell? ⟨bb,16,none⟩=some (.int .i64 t.r.req):=hb.cell 16;have b17:W0.cell? ⟨bb,17,none⟩=some (.int .i64 t.r.e):=hb.cell 17;have b18:W0.cell? ⟨bb,18,none⟩=some (.int .u64 t.r.at'):=hb.cell 18;have b19:W0.cell? ⟨bb,19,none⟩=some (.int .i64 t.r.pin):=hb.cell 19;have b20:W0.cell? ⟨bb,20,none⟩=some (.slice X.rA t.r.ps.length X.rc):=hb.cell 20;have f0:=hn0.frozen 0;have f1:=hn0.frozen 1;have f2:=hn0.frozen 2;have f3:=hn0.frozen 3;have f4:=hn0.frozen 4;have y0:=hn0.cell 0;have y1:=hn0.cell 1;have y2:=hn0.cell 2;have y3:=hn0.cell 3;have y4:=hn0.cell 4;simp[iO,oH]at y0 y1 y2 y3 y4;have dZ:=ah hn0;have aS:=ah hk0;have HH0:=ah h0;have BH:=ah (show w.heap.size<=rb by omega);unfold iO oH at dZ;dsimp only[List.length_nil]at dZ;clear hn0 hk0 h0 hb h hbb;cases hdn:t.dn with
 |false=>
  have hrep:pO t=oH:=by unfold pO;rw[hdn];rfl
  rw[hdn]at b15;rw[hrep];clear hdn b16 b17 b18 b19 b20 hrep;go_enter Tryz.func77,Tryz.ntmps77;go_wp2;refine bodyPost_ret (aU rfl _ _ rb _ rfl (xY (r:=oH) (A:=none) (c:=0) (by unfold iO oH;dsimp only[List.length_nil];((repeat (first|with_reducible exact dZ.out|with_reducible apply Has.aQ|with_reducible apply Has.past|with_reducible apply Has.drewN|with_reducible apply Has.drew|with_reducible apply Has.alloc))<;>first|omega|rfl)))) rfl ?_;refine⟨none,0,rfl,Src.nil _ _ _,?_,fun h=>by cases h⟩;(repeat'(first|(with_reducible first|exact ay|apply aA|apply aB|apply aC|apply aF)|(first|exact aS.out|exact .inr BH.out)|(right;simp;done)))
 |true=>
  have hrep:pO t=t.r:=by unfold pO;rw[hdn];rfl
  rw[hdn]at b15;rw[hrep];clear hdn hrep;go_enter Tryz.func77,Tryz.ntmps77;go_wp2;have oO:Kept (fun k=>k=rb) W0 (((((W0.setCell ⟨rb,0,none⟩ (.int .i64 t.r.req)).setCell ⟨rb,1,none⟩ (.int .i64 t.r.e)).setCell ⟨rb,2,none⟩ (.int .u64 t.r.at')).setCell ⟨rb,3,none⟩ (.int .i64 t.r.pin)).setCell ⟨rb,4,none⟩ (.slice X.rA t.r.ps.length X.rc)):=by(repeat'(first|(with_reducible first|exact ay|apply aA|apply aB|apply aC|apply aF)|(exact .inl rfl)|(right;simp;done)))
  refine bodyPost_ret (aU rfl _ _ rb _ rfl (xY (r:=t.r) (A:=X.rA) (c:=X.rc) (by unfold iO;((repeat (first|with_reducible exact dZ.out|with_reducible apply Has.aQ|with_reducible apply Has.past|with_reducible apply Has.drewN|with_reducible apply Has.drew|with_reducible apply Has.alloc))<;>first|omega|rfl)))) rfl ?_;refine⟨X.rA,X.rc,rfl,Src.fA (aP HH0.out.r oO (fun k hk e=>own_ne HH0.out.r dZ.out (by decide) (e▸hk))),?_,fun _=>rfl⟩;exact aS.out.trans oO (fun i hi=> .inr (by rw[hi];exact BH.out))
theorem TW(h:kS w X t)(hok:mV t):Calls Tryz.prog 44 #[.pointer (some ⟨X.b,0,none⟩)] w (iE w X t (.bool (bu t).2) (bu t).1):=by
 have hb:=h.b;have HH:=ah h;have hwt:=hok.wt;unfold lC at hb;have HB:=ah hb;cases hdn:t.dn with
 |true=>
  have hx:bu t=(t,false):=by unfold bu;rw[if_pos hdn]
  rw[hx];have b15:w.cell? ⟨X.b,15,none⟩=some (.bool true):=by rw[<-hdn];exact hb.cell 15
  clear hb h hx hok hwt hdn;go_enter Tryz.func44,Tryz.ntmps44;go_wp2;go_ret;exact iE.same HH.out (Kept.refl _ _)
 |false=>
  obtain⟨n,hn⟩:∃n,min (t.waits+1) 1073741824=n:=⟨_,rfl⟩;have hwr:IntKind.i64.wrap (t.waits+1)=t.waits+1:=IntWalk.i64_in _ (by omega);have hmn:=rU (t.waits+1) 1073741824 n hn;obtain⟨bb,hbb⟩:∃bb,X.b=bb:=⟨_,rfl⟩;rw[hbb]at hb HB⊢;have b10:w.cell? ⟨bb,10,none⟩=some (.int .i64 t.ph):=hb.cell 10;have b14:w.cell? ⟨bb,14,none⟩=some (.int .i64 t.waits):=hb.cell 14;have f14:=hb.frozen 14;have b15:w.cell? ⟨bb,15,none⟩=some (.bool false):=by rw[<-hdn];exact hb.cell 15
  obtain⟨W1,hW1⟩:∃W1,w.setCell ⟨bb,14,none⟩ (.int .i64 n)=W1:=⟨_,rfl⟩;have hb1:Has W1 bb 136 (lC X {t with waits:=n}).toArray:=by rw[<-hW1];exact HB.out.aQ rfl
  have hk1:Kept (fun k=>k=bb) w W1:=by rw[<-hW1];(repeat'(first|(with_reducible first|exact ay|apply aA|apply aB|apply aC|apply aF)|(exact .inl rfl)|(right;simp;done)))
  have h1:kS W1 X {t with waits:=n}:=h.upd (by rw[hbb];exact hk1) (by rw[hbb];exact hb1) rfl rfl rfl rfl;have d10:W1.cell? ⟨bb,10,none⟩=some (.int .i64 t.ph):=hb1.cell 10;have d14:W1.cell? ⟨bb,14,none⟩=some (.int .i64 n):=hb1.cell 14;have d15:W1.cell? ⟨bb,15,none⟩=some (.bool false):=by rw[<-hdn];exact hb1.cell 15
  have hend:=og h1 ⟨0,21,0,0,[]⟩ none 0 ⟨rfl,.inl ⟨rfl,rfl⟩⟩;rw[hbb]at hend;have hx:bu t=if t.ph=1/\16<n then (eG {t with waits:=n} ⟨0,21,0,0,[]⟩,false)else({t with waits:=n},true):=by unfold bu;rw[if_neg (by rw[hdn];decide),hn]
  have aX:=ah hend;have QG:=ah h1;have iL:=ah hk1;have fF:=ah hbb;by_cases h16:t.ph=1/\16<n
  ·rw[hx,if_pos h16];have hgt:=h16.2;have b1:((t.ph:Int)==1)=true:=by rw[h16.1];rfl
   clear hb h hx hok hwt hdn hb1 hk1 h1 hend hbb h16 HB hn;go_enter Tryz.func44,Tryz.ntmps44;go_wp2_with fail;clear hW1 b10 b14 b15 d10 d14 d15 f14;refine aX.out.mono ?_;rintro e w2 ⟨rfl,hp2,hk2⟩;have y15:w2.cell? ⟨bb,15,none⟩=some (.bool true):=by have e9:=fF.out;subst e9;exact hp2.b.cell 15
   have HP2:=ah hp2;have gJ:=ah hk2;clear hp2 hk2;go_wp2;go_ret;have e9:=fF.out;subst e9
   exact iE.zQ (w1:=W1) (iL.out.mono (fun k e=> .inl e)) HP2.out gJ.out (fun k hk=>by
    rcases hk with e|e|e|e
    ·exact .inl (.inl e)
    ·exact .inl (.inr (.inl e))
    ·exact .inl (.inr (.inr (.inl e)))
    ·exact absurd e (by simp[Value.ownBlock]))
  ·rw[hx,if_neg h16];by_cases C9:t.ph=1
   ·have hle:¬16<n:=fun e=>h16 ⟨C9,e⟩;have b1:((t.ph:Int)==1)=true:=by rw[C9];rfl
    clear hb h hx hok hwt hdn hb1 hk1 h1 hend hbb h16 HB hn C9;go_enter Tryz.func44,Tryz.ntmps44;go_wp2;go_ret;have e9:=fF.out;subst e9;exact⟨rfl,X,QG.out,rfl,fun k hk=> .inl hk,iL.out.mono (fun k e=> .inl e)⟩
   ·have b1:((t.ph:Int)==1)=false:=by rw[beq_eq_false_iff_ne];omega
    clear hb h hx hok hwt hdn hb1 hk1 h1 hend hbb h16 HB hn C9;go_enter Tryz.func44,Tryz.ntmps44;go_wp2;go_ret;have e9:=fF.out;subst e9;exact⟨rfl,X,QG.out,rfl,fun k hk=> .inl hk,iL.out.mono (fun k e=> .inl e)⟩
end
end Ask
namespace Ask
open bg Ops fG eP MO Vn
attribute [local go_sem↓] bW cZ
def Ba(w:World)(X:DX)(t:TS)(ep hd:Int)(e:Ending)(w':World):Prop:=
 ∃A c,e=.returned (.tuple #[.int .i64 (aJ t ep hd).1,aK {(aJ t ep hd).2 with oA:=A,oc:=c}])/\Src w' 3 A (aJ t ep hd).2.ops.length (cells (aJ t ep hd).2.ops)/\(aJ t ep hd).2.ops.length<=c/\(∀ad,A=some ad->dN X t ad.block)/\Kept aj w w'
section
variable{w w':World}{X:DX}{t:TS}{G:Nat->Prop}
theorem TX(h:kS w X t)(hok:mV t)(ep hd:Int):Calls Tryz.prog 75 #[.pointer (some ⟨X.b,0,none⟩),.int .i64 ep,.int .i64 hd] w (Ba w X t ep hd):=by
 obtain⟨W0,hW0⟩:∃W0,w.alloc (.cells fH 63)=W0:=⟨_,rfl⟩;have hk0:Kept aj w W0:=by rw[<-hW0];(repeat'(first|(with_reducible first|exact ay|apply aA|apply aB|apply aC|apply aF)|(right;simp;done)))
 have hn0:Has W0 w.heap.size 63 fH:=by rw[<-hW0];exact Has.new _ _ _
 have h0:=h.quiet hk0;have hb:=h0.b;have hsz:=fun W (hW:Kept aj W0 W)=>JD (h0.quiet hW) hok;have uQ:=hok.ph;obtain⟨bb,hbb⟩:∃bb,X.b=bb:=⟨_,rfl⟩;rw[hbb]at hb⊢;simp only[hbb]at hsz;obtain⟨z,hz⟩:∃z,mZ t=z:=⟨_,rfl⟩;simp only[hz]at hsz;obtain⟨rb,hrb⟩:∃rb,w.heap.size=rb:=⟨_,rfl⟩;rw[hrb]at hn0;have hne:bb≠rb:=fun e=>Has.ne hb hn0 (by decide) e;obtain⟨n,hn⟩:∃n,t.bo.length=n:=⟨_,rfl⟩;obtain⟨pz,hpz⟩:∃pz:Int,(t.ph:Int)=pz:=⟨_,rfl⟩;have hcs:∀W,Kept (fun k=>k=rb) W0 W->W.cell? ⟨bb,0,none⟩=some (.int .i64 t.cl)/\W.cell? ⟨bb,1,none⟩=some (.int .i64 t.rq)/\W.cell? ⟨bb,2,none⟩=some (.slice X.bA n X.bc)/\W.cell? ⟨bb,4,none⟩=some (.int .i64 t.a.nd)/\W.cell? ⟨bb,6,none⟩=some (.string t.a.to)/\W.cell? ⟨bb,7,none⟩=some (.int .u64 t.a.at')/\W.cell? ⟨bb,8,none⟩=some (.int .i64 t.a.n)/\W.cell? ⟨bb,11,none⟩=some (.int .u64 t.at')/\W.cell? ⟨bb,12,none⟩=some (.string t.key):=fun W hW=>by have hb2:=hb.kept hW hne;exact⟨hb2.cell 0,hb2.cell 1,by rw[<-hn];exact hb2.cell 2,hb2.cell 4,hb2.cell 6,hb2.cell 7,hb2.cell 8,hb2.cell 11,hb2.cell 12⟩
 have b1:W0.cell? ⟨bb,1,none⟩=some (.int .i64 t.rq):=hb.cell 1;have b3:W0.cell? ⟨bb,3,none⟩=some (.int .i64 t.a.k):=hb.cell 3;have b10:W0.cell? ⟨bb,10,none⟩=some (.int .i64 pz):=by rw[<-hpz];exact hb.cell 10
 have b15:W0.cell? ⟨bb,15,none⟩=some (.bool t.dn):=hb.cell 15;have hsrc:∀W,Kept (fun k=>k=rb) W0 W->Src W 3 X.bA n (cells t.bo):=fun W hW=>by have h1:=aP h0.bo hW (fun k hk e=>own_ne h0.bo hn0 (by decide) (e▸hk));rw[hn]at h1;exact Src.fA h1
 have hcap:=(mM h.bo).1;rw[hn]at hcap;have hpost:∀(to:Int) (m:aO) W6,aJ t ep hd=(to,m)->m.ops=[]->m.oA=none->m.oc=0->Kept (fun k=>k=rb) W0 W6->Ba w X t ep hd (.returned (.tuple #[.int .i64 to,aK m])) W6:=fun to m W6 e1 e2 e3 e4 hk=>by
  refine⟨none,0,?_,?_,?_,(fun ad e=>by cases e),hk0.trans hk (fun i hi=> .inr (by rw[hi,<-hrb];exact Nat.le_refl _))⟩
  ·rw[e1];have e5:{m with oA:=none,oc:=0}=m:=by rw[<-e3,<-e4]
   show Ending.returned (.tuple #[.int .i64 to,aK m])=.returned (.tuple #[.int .i64 to,aK {m with oA:=none,oc:=0}]);rw[e5]
  ·rw[e1];show Src W6 3 none m.ops.length (cells m.ops);rw[e2];exact Src.nil _ _ _
  ·rw[e1];show m.ops.length<=0;rw[e2];exact Nat.le_refl _
 have Di:=ah (show∀ad,X.bA=some ad->dN X t ad.block from fun ad e=>by
  rcases h.bo.2 with⟨h1,_⟩|⟨g,cap,cur,h1,_⟩
  ·rw[e]at h1;injection h1 with h1;cases h1
  ·rw[e]at h1;injection h1 with h1;injection h1 with h1;refine .inr (.inr (.inl ?_));rw[e,h1];simp[Value.ownBlock])
 have CY:=ah hpost;have dV:=ah hcs;have sH:=ah hsz;have uS:=ah hsrc;have dZ:=ah hn0;have aS:=ah hk0;have Ar:=ah hpz;have HZ:=ah hz;have lJ:=ah hn;have BH:=ah hrb;have y0:=hcs W0 (Kept.refl _ _);unfold fH at hW0;clear hpost hcs hsz hsrc hn0 hk0 h0 hb h hok hbb hz hn;cases hdn:t.dn with
 |true=>
  rw[hdn]at b15;have hx:aJ t ep hd=(-1,bP):=by unfold aJ;rw[if_pos hdn]
  obtain⟨W6,hst,hb6,hk6⟩:=jF (show Has W0 rb 63 fH from dZ.out) rfl bP;have jR:Kept (fun k=>k=rb) W0 W6:=hk6;have y6:=dV.out W6 jR;unfold au bP at hst;dsimp only[List.length_nil]at hst;have HX:=ah hx;have jS:=ah hb6;have eu:=ah jR;clear hx hb6 hk6 jR hdn uQ;go_enter Tryz.func75,Tryz.ntmps75;go_wp2;refine bodyPost_ret (dG rfl _ _ rb _ rfl (jv (x:=bP) jS.out)) rfl ?_;exact CY.out _ _ _ HX.out rfl rfl rfl eu.out
 |false=>
  have qE:=ah hdn;rw[hdn]at b15;have hd0:¬t.dn=true:=by rw[hdn];decide
  clear hdn;have HD0:=ah hd0;clear hd0;rcases(show t.ph=0\/t.ph=1\/t.ph=2 by omega)with e|e|e
  ·have p0:(pz==0)=true:=by rw[<-Ar.out,e];rfl
   by_cases hh:hd<0
   ·have hx:aJ t ep hd=(4,{bP with k:=15}):=by unfold aJ;rw[if_neg HD0.out,if_pos e,if_pos hh]
    obtain⟨W6,hst,hb6,hk6⟩:=jF (show Has W0 rb 63 fH from dZ.out) rfl {bP with k:=15};have jR:Kept (fun k=>k=rb) W0 W6:=hk6;have y6:=dV.out W6 jR;unfold au bP at hst;dsimp only[List.length_nil]at hst;have HX:=ah hx;have jS:=ah hb6;have eu:=ah jR;clear hx hb6 hk6 jR e uQ hpz;go_enter Tryz.func75,Tryz.ntmps75;go_wp2;refine bodyPost_ret (dG rfl _ _ rb _ rfl (jv (x:={bP with k:=15}) jS.out)) rfl ?_;exact CY.out _ _ _ HX.out rfl rfl rfl eu.out
   ·obtain⟨M,hM⟩:∃M,max ep 0=M:=⟨_,rfl⟩;have hmx:=NL ep 0 M hM;have HMX:=ah hM;clear hM;have hx:aJ t ep hd=(hd,{bP with k:=5,ep:=max ep 0,o7:=t.cl,lK:=t.rq,ops:=t.bo}):=by unfold aJ;rw[if_neg HD0.out,if_pos e,if_neg hh]
    obtain⟨W6,hst,hb6,hk6⟩:=jF (show Has W0.drew rb 63 fH from dZ.out) rfl {bP with k:=5,ep:=M,o7:=t.cl,lK:=t.rq,oA:=X.bA,oc:=X.bc,ops:=t.bo};have jR:Kept (fun k=>k=rb) W0 W6:=((Kept.refl _ W0).drew).then hk6;have y6:=dV.out W6 jR;unfold au bP at hst;dsimp only[List.length_nil]at hst;rw[lJ.out]at hst;have HX:=ah hx;have jS:=ah hb6;have eu:=ah jR;clear hx hb6 hk6 jR e uQ hpz;go_enter Tryz.func75,Tryz.ntmps75;go_wp2
    go_region_held3 (fun W=>W.cell? ⟨bb,0,none⟩=some (.int .i64 t.cl)/\W.cell? ⟨bb,1,none⟩=some (.int .i64 t.rq)/\W.cell? ⟨bb,2,none⟩=some (.slice X.bA n X.bc)/\W.cell? ⟨bb,4,none⟩=some (.int .i64 t.a.nd)/\W.cell? ⟨bb,6,none⟩=some (.string t.a.to)/\W.cell? ⟨bb,7,none⟩=some (.int .u64 t.a.at')/\W.cell? ⟨bb,8,none⟩=some (.int .i64 t.a.n)/\W.cell? ⟨bb,11,none⟩=some (.int .u64 t.at')/\W.cell? ⟨bb,12,none⟩=some (.string t.key))
     (first|with_reducible exact y6|with_reducible exact y4|with_reducible exact y0|exact y0)
     (fail)
    all_goals
     go_wp2
     refine bodyPost_ret (dG rfl _ _ rb _ rfl (jv (x:={bP with k:=5,ep:=M,o7:=t.cl,lK:=t.rq,oA:=X.bA,oc:=X.bc,ops:=t.bo}) jS.out)) rfl ?_
     refine⟨X.bA,X.bc,?_,?_,?_,Di.out,aS.out.trans eu.out (fun i hi=> .inr (by rw[hi,<-BH.out];exact Nat.le_refl _))⟩
     ·rw[HX.out,HMX.out];rfl
     ·rw[HX.out];show Src W6 3 X.bA t.bo.length (cells t.bo);rw[lJ.out];exact uS.out _ eu.out
     ·rw[HX.out];show t.bo.length<=X.bc;rw[lJ.out];exact hcap
  ·have p0:(pz==0)=false:=by rw[<-Ar.out,e];rfl
   have p1:(pz==1)=true:=by rw[<-Ar.out,e];rfl
   by_cases h2:t.a.k=2
   ·have k2:(t.a.k==2)=true:=by simpa using h2
    have hx:aJ t ep hd=(t.a.nd,{bP with k:=9,req:=t.rq,key:=t.key,to:=t.a.to,at':=t.at',n:=z}):=by unfold aJ;rw[if_neg HD0.out,if_neg (by omega),if_pos e,if_pos h2,HZ.out]
    have hm:=fun W (hW:Kept aj W0 W)=>jF (dZ.out.kept hW (fun z=>z)) rfl {bP with k:=9,req:=t.rq,key:=t.key,to:=t.a.to,at':=t.at',n:=z};unfold au bP at hm;dsimp only[List.length_nil]at hm;have HX:=ah hx;have HM:=ah hm;clear hx hm e uQ h2 hpz;go_enter Tryz.func75,Tryz.ntmps75;go_wp2
    go_region_held3 (fun W=>W.cell? ⟨bb,0,none⟩=some (.int .i64 t.cl)/\W.cell? ⟨bb,1,none⟩=some (.int .i64 t.rq)/\W.cell? ⟨bb,2,none⟩=some (.slice X.bA n X.bc)/\W.cell? ⟨bb,4,none⟩=some (.int .i64 t.a.nd)/\W.cell? ⟨bb,6,none⟩=some (.string t.a.to)/\W.cell? ⟨bb,7,none⟩=some (.int .u64 t.a.at')/\W.cell? ⟨bb,8,none⟩=some (.int .i64 t.a.n)/\W.cell? ⟨bb,11,none⟩=some (.int .u64 t.at')/\W.cell? ⟨bb,12,none⟩=some (.string t.key))
     (first|with_reducible exact y6|with_reducible exact y4|with_reducible exact y0|exact y0)
     (first|(go_at_call 118;refine(sH.out _ (by(repeat'(first|(with_reducible first|exact ay|apply aA|apply aB|apply aC|apply aF)|(right;simp;done))))).mono ?_;rintro e w4 ⟨rfl,hk4⟩;have hk:=Kept.then (F:=aj) (a:=W0) (by(repeat'(first|(with_reducible first|exact ay|apply aA|apply aB|apply aC|apply aF)|(right;simp;done)))) hk4;have y4:=dV.out w4 (hk.mono (fun _ z=>z.elim));obtain⟨W6,hst,hb6,hk6⟩:=HM.out w4 hk;have y6:=dV.out W6 (Kept.then (hk.mono (fun _ z=>z.elim)) hk6);have jS:=ah hb6;have eu:=ah (Kept.then (hk.mono (G:=fun k=>k=rb) (fun _ z=>z.elim)) hk6);clear hb6 hk6 hk hk4))
    all_goals
     go_wp2
     refine bodyPost_ret (dG rfl _ _ rb _ rfl (jv (x:={bP with k:=9,req:=t.rq,key:=t.key,to:=t.a.to,at':=t.at',n:=z}) jS.out)) rfl ?_
     exact CY.out _ _ _ HX.out rfl rfl rfl eu.out
   ·have k2:(t.a.k==2)=false:=by simpa using h2
    have hx:aJ t ep hd=(t.a.nd,{bP with k:=8,req:=t.rq,key:=t.key,at':=t.at'}):=by unfold aJ;rw[if_neg HD0.out,if_neg (by omega),if_pos e,if_neg h2]
    obtain⟨W6,hst,hb6,hk6⟩:=jF (show Has W0.drew rb 63 fH from dZ.out) rfl {bP with k:=8,req:=t.rq,key:=t.key,at':=t.at'};have jR:Kept (fun k=>k=rb) W0 W6:=((Kept.refl _ W0).drew).then hk6;have y6:=dV.out W6 jR;unfold au bP at hst;dsimp only[List.length_nil]at hst;have HX:=ah hx;have jS:=ah hb6;have eu:=ah jR;clear hx hb6 hk6 jR e uQ h2 hpz;go_enter Tryz.func75,Tryz.ntmps75;go_wp2
    go_region_held3 (fun W=>W.cell? ⟨bb,0,none⟩=some (.int .i64 t.cl)/\W.cell? ⟨bb,1,none⟩=some (.int .i64 t.rq)/\W.cell? ⟨bb,2,none⟩=some (.slice X.bA n X.bc)/\W.cell? ⟨bb,4,none⟩=some (.int .i64 t.a.nd)/\W.cell? ⟨bb,6,none⟩=some (.string t.a.to)/\W.cell? ⟨bb,7,none⟩=some (.int .u64 t.a.at')/\W.cell? ⟨bb,8,none⟩=some (.int .i64 t.a.n)/\W.cell? ⟨bb,11,none⟩=some (.int .u64 t.at')/\W.cell? ⟨bb,12,none⟩=some (.string t.key))
     (first|with_reducible exact y6|with_reducible exact y4|with_reducible exact y0|exact y0)
     (fail)
    all_goals
     go_wp2
     refine bodyPost_ret (dG rfl _ _ rb _ rfl (jv (x:={bP with k:=8,req:=t.rq,key:=t.key,at':=t.at'}) jS.out)) rfl ?_
     exact CY.out _ _ _ HX.out rfl rfl rfl eu.out
  ·have p0:(pz==0)=false:=by rw[<-Ar.out,e];rfl
   have p1:(pz==1)=false:=by rw[<-Ar.out,e];rfl
   by_cases h4:t.a.k=4
   ·have k4:(t.a.k==4)=true:=by simpa using h4
    have hx:aJ t ep hd=(4,{bP with k:=11,req:=t.rq,at':=t.a.at'}):=by unfold aJ;rw[if_neg HD0.out,if_neg (by omega),if_neg (by omega),if_pos h4]
    obtain⟨W6,hst,hb6,hk6⟩:=jF (show Has W0.drew rb 63 fH from dZ.out) rfl {bP with k:=11,req:=t.rq,at':=t.a.at'};have jR:Kept (fun k=>k=rb) W0 W6:=((Kept.refl _ W0).drew).then hk6;have y6:=dV.out W6 jR;unfold au bP at hst;dsimp only[List.length_nil]at hst;have HX:=ah hx;have jS:=ah hb6;have eu:=ah jR;clear hx hb6 hk6 jR e uQ h4 hpz;go_enter Tryz.func75,Tryz.ntmps75;go_wp2
    go_region_held3 (fun W=>W.cell? ⟨bb,0,none⟩=some (.int .i64 t.cl)/\W.cell? ⟨bb,1,none⟩=some (.int .i64 t.rq)/\W.cell? ⟨bb,2,none⟩=some (.slice X.bA n X.bc)/\W.cell? ⟨bb,4,none⟩=some (.int .i64 t.a.nd)/\W.cell? ⟨bb,6,none⟩=some (.string t.a.to)/\W.cell? ⟨bb,7,none⟩=some (.int .u64 t.a.at')/\W.cell? ⟨bb,8,none⟩=some (.int .i64 t.a.n)/\W.cell? ⟨bb,11,none⟩=some (.int .u64 t.at')/\W.cell? ⟨bb,12,none⟩=some (.string t.key))
     (first|with_reducible exact y6|with_reducible exact y4|with_reducible exact y0|exact y0)
     (fail)
    all_goals
     go_wp2
     refine bodyPost_ret (dG rfl _ _ rb _ rfl (jv (x:={bP with k:=11,req:=t.rq,at':=t.a.at'}) jS.out)) rfl ?_
     exact CY.out _ _ _ HX.out rfl rfl rfl eu.out
   have k4:(t.a.k==4)=false:=by simpa using h4
   by_cases h5:t.a.k=5
   ·have k5:(t.a.k==5)=true:=by simpa using h5
    have hx:aJ t ep hd=(4,{bP with k:=12,req:=t.rq,n:=t.a.n}):=by unfold aJ;rw[if_neg HD0.out,if_neg (by omega),if_neg (by omega),if_neg h4,if_pos h5]
    obtain⟨W6,hst,hb6,hk6⟩:=jF (show Has W0.drew rb 63 fH from dZ.out) rfl {bP with k:=12,req:=t.rq,n:=t.a.n};have jR:Kept (fun k=>k=rb) W0 W6:=((Kept.refl _ W0).drew).then hk6;have y6:=dV.out W6 jR;unfold au bP at hst;dsimp only[List.length_nil]at hst;have HX:=ah hx;have jS:=ah hb6;have eu:=ah jR;clear hx hb6 hk6 jR e uQ h4 h5 hpz;go_enter Tryz.func75,Tryz.ntmps75;go_wp2
    go_region_held3 (fun W=>W.cell? ⟨bb,0,none⟩=some (.int .i64 t.cl)/\W.cell? ⟨bb,1,none⟩=some (.int .i64 t.rq)/\W.cell? ⟨bb,2,none⟩=some (.slice X.bA n X.bc)/\W.cell? ⟨bb,4,none⟩=some (.int .i64 t.a.nd)/\W.cell? ⟨bb,6,none⟩=some (.string t.a.to)/\W.cell? ⟨bb,7,none⟩=some (.int .u64 t.a.at')/\W.cell? ⟨bb,8,none⟩=some (.int .i64 t.a.n)/\W.cell? ⟨bb,11,none⟩=some (.int .u64 t.at')/\W.cell? ⟨bb,12,none⟩=some (.string t.key))
     (first|with_reducible exact y6|with_reducible exact y4|with_reducible exact y0|exact y0)
     (fail)
    all_goals
     go_wp2
     refine bodyPost_ret (dG rfl _ _ rb _ rfl (jv (x:={bP with k:=12,req:=t.rq,n:=t.a.n}) jS.out)) rfl ?_
     exact CY.out _ _ _ HX.out rfl rfl rfl eu.out
   ·have k5:(t.a.k==5)=false:=by simpa using h5
    have hx:aJ t ep hd=(4,{bP with k:=13,req:=t.rq,n:=t.a.n}):=by unfold aJ;rw[if_neg HD0.out,if_neg (by omega),if_neg (by omega),if_neg h4,if_neg h5]
    obtain⟨W6,hst,hb6,hk6⟩:=jF (show Has W0.drew rb 63 fH from dZ.out) rfl {bP with k:=13,req:=t.rq,n:=t.a.n};have jR:Kept (fun k=>k=rb) W0 W6:=((Kept.refl _ W0).drew).then hk6;have y6:=dV.out W6 jR;unfold au bP at hst;dsimp only[List.length_nil]at hst;have HX:=ah hx;have jS:=ah hb6;have eu:=ah jR;clear hx hb6 hk6 jR e uQ h4 h5 hpz;go_enter Tryz.func75,Tryz.ntmps75;go_wp2
    go_region_held3 (fun W=>W.cell? ⟨bb,0,none⟩=some (.int .i64 t.cl)/\W.cell? ⟨bb,1,none⟩=some (.int .i64 t.rq)/\W.cell? ⟨bb,2,none⟩=some (.slice X.bA n X.bc)/\W.cell? ⟨bb,4,none⟩=some (.int .i64 t.a.nd)/\W.cell? ⟨bb,6,none⟩=some (.string t.a.to)/\W.cell? ⟨bb,7,none⟩=some (.int .u64 t.a.at')/\W.cell? ⟨bb,8,none⟩=some (.int .i64 t.a.n)/\W.cell? ⟨bb,11,none⟩=some (.int .u64 t.at')/\W.cell? ⟨bb,12,none⟩=some (.string t.key))
     (first|with_reducible exact y6|with_reducible exact y4|with_reducible exact y0|exact y0)
     (fail)
    all_goals
     go_wp2
     refine bodyPost_ret (dG rfl _ _ rb _ rfl (jv (x:={bP with k:=13,req:=t.rq,n:=t.a.n}) jS.out)) rfl ?_
     exact CY.out _ _ _ HX.out rfl rfl rfl eu.out

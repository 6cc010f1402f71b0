/- Part 9. -/
import Derived.Test.YtgbigpdiacjbgaaGreatKP07
set_option linter.unusedSimpArgs false
set_option linter.unusedVariables false
set_option maxHeartbeats 32000000
set_option maxRecDepth 100000
namespace Go.Proofs.YtgbigpdiacjbgaaGreat
open Go.RowKit
namespace Ask
open bg Ops fG eP MO Vn
section
variable{w w':World}{X:PX}{t:TS}{G:Nat->Prop}
theorem aaI(X:PX)(t:TS)(W:World):(Instr.typeAssert (pI X t) 107 112 true).run Tryz.prog W=.ok (.tuple #[.pointer (if t.ph=1 then some ⟨X.g,0,none⟩else none),.bool (decide (t.ph=1))]) W:=by
 unfold pI;by_cases h0:t.ph=0
 ·rw[if_pos h0,if_neg (by omega),decide_eq_false (by omega)];obtain⟨cs,hcs⟩:∃cs,(fM X t).toArray=cs:=⟨_,rfl⟩;rw[hcs];kernel_rfl
 ·by_cases h1:t.ph=1
  ·rw[if_neg h0,if_pos h1,if_pos h1,decide_eq_true h1];kernel_rfl
  ·rw[if_neg h0,if_neg h1,if_neg h1,decide_eq_false h1];obtain⟨cs,hcs⟩:∃cs,(fM X t).toArray=cs:=⟨_,rfl⟩;rw[hcs];kernel_rfl
def YL:Array Value:=#[.int .i64 0,.int .i64 0,.slice none 0 0,.int .i64 0,.int .i64 0,.string ⟨#[]⟩,.string ⟨#[]⟩,.int .u64 0,.int .i64 0,.slice none 0 0]
theorem aaJ(X:PX)(t:TS)(W:World):(Instr.typeAssert (pI X t) 107 111 true).run Tryz.prog W=.ok (.tuple #[.agg (if t.ph=0 then (fM X t).toArray else YL),.bool (decide (t.ph=0))]) W:=by
 unfold pI;obtain⟨cs,hcs⟩:∃cs,(fM X t).toArray=cs:=⟨_,rfl⟩;rw[hcs];by_cases h0:t.ph=0
 ·rw[if_pos h0,if_pos h0,decide_eq_true h0];kernel_rfl
 ·rw[if_neg h0,if_neg h0,decide_eq_false h0];by_cases h1:t.ph=1
  ·rw[if_pos h1];kernel_rfl
  ·rw[if_neg h1];kernel_rfl
theorem EZ(h:kN w X t):Calls Tryz.prog 31 #[.pointer (some ⟨X.b,0,none⟩)] w fun e w'=>e=.returned (.bool (!t.dn&&decide (t.ph=0)))/\Kept aj w w':=by
 have hnone:=xX h;have hb:=h.b;unfold uI at hb;obtain⟨bb,hbb⟩:∃bb,X.b=bb:=⟨_,rfl⟩;rw[hbb]at hb hnone⊢;have b0:w.cell? ⟨bb,0,none⟩=some (pI X t):=hb.cell 0;have b3:w.cell? ⟨bb,3,none⟩=some (.bool t.dn):=hb.cell 3;have hta:=aaJ X t;obtain⟨v0,hv0⟩:∃v0,decide (t.ph=0)=v0:=⟨_,rfl⟩;rw[hv0]at hta⊢;have hcs:∃x0 x1 A1 n1 c1 x3 x4 s5 s6 x7 x8 A9 n9 c9,(if t.ph=0 then (fM X t).toArray else YL)=#[.int .i64 x0,.int .i64 x1,.slice A1 n1 c1,.int .i64 x3,.int .i64 x4,.string s5,.string s6,.int .u64 x7,.int .i64 x8,.slice A9 n9 c9]:=by
  by_cases h0:t.ph=0
  ·rw[if_pos h0];exact⟨_,_,_,_,_,_,_,_,_,_,_,_,_,_,rfl⟩
  ·rw[if_neg h0];exact⟨_,_,_,_,_,_,_,_,_,_,_,_,_,_,rfl⟩
 obtain⟨cs,YM⟩:∃cs,(if t.ph=0 then (fM X t).toArray else YL)=cs:=⟨_,rfl⟩;rw[YM]at hta hcs;obtain⟨x0,x1,A1,n1,c1,x3,x4,s5,s6,x7,x8,A9,n9,c9,rfl⟩:=hcs;obtain⟨pv,hpv⟩:∃pv,pI X t=pv:=⟨_,rfl⟩;rw[hpv]at b0 hta;have HN:=ah hnone;clear hnone hb h hbb hpv YM;cases hdn:t.dn with
 |true=>
  rw[hdn]at b3;clear hdn;go_enter Tryz.func31,Tryz.ntmps31;go_wp2_with fail;refine HN.out.mono ?_;rintro e w1 ⟨rfl,rfl⟩;go_wp2;go_ret;exact⟨rfl,Kept.refl _ _⟩
 |false=>
  rw[hdn]at b3;clear hdn hv0;go_enter Tryz.func31,Tryz.ntmps31;go_wp2_with fail;refine HN.out.mono ?_;rintro e w1 ⟨rfl,rfl⟩;go_wp2;go_ret;exact⟨by simp,by(repeat'(first|(with_reducible first|exact ay|apply aA|apply aB|apply aC|apply aF)|(right;simp;done)))⟩
theorem kN.upd{t':TS}(h:kN w X t)(hk:Kept (fun k=>k=X.b) w w')(hb:Has w' X.b 109 (uI X t'))(hg:rJ X t'=rJ X t)(pX:t'.bo=t.bo)(iV:t'.ph=t.ph)(hps:t'.ps=t.ps)(hr:t'.r=t.r)(hd:t'.dn=t.dn):kN w' X t':=by
 have hne:∀{e:TypeId} {size n:Nat} {v:Value} {xs:List Value},w.ownsRow 0 e size v n xs->e≠109->w'.ownsRow 0 e size v n xs:=fun ho he=>aP ho hk (fun k hk2 e2=>own_ne ho h.b he (e2▸hk2));refine⟨hb,fun e=> ?_,?_,?_,?_,?_,?_⟩
 ·rw[iV]at e;have g:=h.g e;rw[hg];exact g.kept hk (fun e2=>Has.ne g h.b (by decide) e2)
 ·rw[iV,hps];exact h.g0
 ·rw[pX];exact hne h.bo (by decide)
 ·rw[hps];exact hne h.p (by decide)
 ·rw[hr];exact hne h.r (by decide)
 ·rw[hd,hr];exact h.nd
theorem dY.zQ{t':TS}{r:o8}{A:Option Addr}{c:Nat}{w1 w2:World}{v:Value}(hk:Kept (jW X t) w w1)(h2:kN w2 {X with rA:=A,rc:=c} (eG t' r))(hk2:Kept (fun k=>k=X.b) w1 w2)
  (hf:∀k,jW {X with rA:=A,rc:=c} (eG t' r) k->jW X t k\/w.heap.size<=k):dY w X t v (eG t' r) (.returned v) w2:=
 ⟨rfl,_,h2,rfl,hf,hk.then (hk2.mono (fun k e=> .inl e))⟩
theorem UK{e:Int}{k:Nat}{n:Int}(hk:jW {X with rA:=none,rc:=0} (eG {t with waits:=n} ⟨0,e,0,0,[]⟩) k):jW X t k\/w.heap.size<=k:=by
 rcases hk with e|e|e|e|e
 ·exact .inl (.inl e)
 ·exact .inl (.inr (.inl e))
 ·exact .inl (.inr (.inr (.inl e)))
 ·exact .inl (.inr (.inr (.inr (.inl e))))
 ·exact absurd e (by simp[Value.ownBlock])
theorem IW(h:kN w X t)(hok:mV t):Calls Tryz.prog 34 #[.pointer (some ⟨X.b,0,none⟩)] w (dY w X t (.bool (bu t).2) (bu t).1):=by
 have hnone:=xX h;have hb:=h.b;have hta:=aaI X t;have HH:=ah h;have vT:=ah hok.wt;unfold uI at hb;have HB:=ah hb;have hwt:=hok.wt;cases hdn:t.dn with
 |true=>
  have hx:bu t=(t,false):=by unfold bu;rw[if_pos hdn]
  rw[hx];have b3:w.cell? ⟨X.b,3,none⟩=some (.bool true):=by rw[<-hdn];exact hb.cell 3
  have HN:=ah hnone;clear hnone hb h hx hok hwt hta hdn;go_enter Tryz.func34,Tryz.ntmps34;go_wp2_with fail;refine HN.out.mono ?_;rintro e w1 ⟨rfl,rfl⟩;go_wp2;go_ret;exact⟨rfl,X,HH.out,rfl,fun k hk=> .inl hk,Kept.refl _ _⟩
 |false=>
  obtain⟨n,hn⟩:∃n,min (t.waits+1) 1073741824=n:=⟨_,rfl⟩;have hwr:IntKind.i64.wrap (t.waits+1)=t.waits+1:=IntWalk.i64_in _ (by omega);have hmn:=rU (t.waits+1) 1073741824 n hn;obtain⟨bb,hbb⟩:∃bb,X.b=bb:=⟨_,rfl⟩;rw[hbb]at hb hnone HB⊢;have b0:w.cell? ⟨bb,0,none⟩=some (pI X t):=hb.cell 0;have b2:w.cell? ⟨bb,2,none⟩=some (.int .i64 t.waits):=hb.cell 2;have f2:=hb.frozen 2;have b3:w.cell? ⟨bb,3,none⟩=some (.bool false):=by rw[<-hdn];exact hb.cell 3
  obtain⟨W1,hW1⟩:∃W1,w.setCell ⟨bb,2,none⟩ (.int .i64 n)=W1:=⟨_,rfl⟩;have hb1:Has W1 bb 109 (uI X {t with waits:=n}):=by rw[<-hW1];exact HB.out.aQ rfl
  have hk1:Kept (fun k=>k=bb) w W1:=by rw[<-hW1];(repeat'(first|(with_reducible first|exact ay|apply aA|apply aB|apply aC|apply aF)|(exact .inl rfl)|(right;simp;done)))
  have h1:kN W1 X {t with waits:=n}:=h.upd (by rw[hbb];exact hk1) (by rw[hbb];exact hb1) rfl rfl rfl rfl rfl rfl;have d0:W1.cell? ⟨bb,0,none⟩=some (pI X t):=hb1.cell 0;have d2:W1.cell? ⟨bb,2,none⟩=some (.int .i64 n):=hb1.cell 2;have d3:W1.cell? ⟨bb,3,none⟩=some (.bool false):=by rw[<-hdn];exact hb1.cell 3
  have hend:=qO h1 ⟨0,21,0,0,[]⟩ none 0 ⟨rfl,.inl ⟨rfl,rfl⟩⟩;rw[hbb]at hend;have hx:bu t=if t.ph=1/\16<n then (eG {t with waits:=n} ⟨0,21,0,0,[]⟩,false)else({t with waits:=n},true):=by unfold bu;rw[if_neg (by rw[hdn];decide),hn]
  have HX:=ah hx;have aX:=ah hend;have QG:=ah h1;have iL:=ah hk1;have fF:=ah hbb;have HN:=ah hnone;obtain⟨pv,hpv⟩:∃pv,pI X t=pv:=⟨_,rfl⟩;rw[hpv]at b0 d0 hta;by_cases h16:t.ph=1/\16<n
  ·rw[hx,if_pos h16];rw[if_pos h16.1,decide_eq_true h16.1]at hta;have hgt:=h16.2;clear hnone hb h hx hok hwt hdn hb1 hk1 h1 hend hbb hpv h16 HB hn;go_enter Tryz.func34,Tryz.ntmps34;go_wp2_with fail;refine HN.out.mono ?_;rintro e w1 ⟨rfl,rfl⟩;go_wp2_with fail;clear hW1 b0 b2 b3 d0 d2 d3 f2;refine aX.out.mono ?_;rintro e w2 ⟨rfl,hp2,hk2⟩;have y3:w2.cell? ⟨bb,3,none⟩=some (.bool true):=by have e9:=fF.out;subst e9;exact hp2.b.cell 3
   have HP2:=ah hp2;have gJ:=ah hk2;clear hp2 hk2;go_wp2;go_ret;have e9:=fF.out;subst e9;exact dY.zQ (w1:=W1) (iL.out.mono (fun k e=> .inl e)) HP2.out gJ.out (fun k hk=>UK hk)
  ·rw[hx,if_neg h16];have hcond:(decide (t.ph=1)&&decide (16<n))=false:=by
    rw[Bool.and_eq_false_iff];rcases(show¬t.ph=1\/¬16<n by omega)with e|e
    ·exact .inl (decide_eq_false e)
    ·exact .inr (decide_eq_false e)
   by_cases C9:t.ph=1
   ·have hle:¬16<n:=fun e=>h16 ⟨C9,e⟩;rw[if_pos C9,decide_eq_true C9]at hta;clear hnone hb h hx hok hwt hdn hb1 hk1 h1 hend hbb hpv h16 HB hn C9 hcond;go_enter Tryz.func34,Tryz.ntmps34;go_wp2_with fail;refine HN.out.mono ?_;rintro e w1 ⟨rfl,rfl⟩;go_wp2;go_ret;have e9:=fF.out;subst e9;exact⟨rfl,X,QG.out,rfl,fun k hk=> .inl hk,iL.out.mono (fun k e=> .inl e)⟩
   ·rw[if_neg C9,decide_eq_false C9]at hta;clear hnone hb h hx hok hwt hdn hb1 hk1 h1 hend hbb hpv h16 HB hn C9 hcond;go_enter Tryz.func34,Tryz.ntmps34;go_wp2_with fail;refine HN.out.mono ?_;rintro e w1 ⟨rfl,rfl⟩;go_wp2;go_ret;have e9:=fF.out;subst e9;exact⟨rfl,X,QG.out,rfl,fun k hk=> .inl hk,iL.out.mono (fun k e=> .inl e)⟩
end
end Ask
namespace Ask
open bg Ops fG eP MO Vn
section
variable{w w':World}{X:PX}{t:TS}{G:Nat->Prop}
theorem QH(w:World)(X:PX)(t:TS)(f:Int):Calls Tryz.prog 205 #[.agg (fM X t).toArray,.int .i64 f] w fun e w'=>e=.returned (.bool (decide (0<=f/\f<4)))/\Kept aj w w':=by have hr:=fun W=>EY W f;obtain⟨v,hv⟩:∃v,decide (0<=f/\f<4)=v:=⟨_,rfl⟩;simp only[hv]at hr;rw[hv];unfold fM bQ;simp only[List.cons_append,List.nil_append];have HR:=ah hr;clear hr hv;go_enter Tryz.func205,Tryz.ntmps205;go_wp2_with fail;refine(HR.out _).mono ?_;rintro e w2 ⟨rfl,rfl⟩;go_wp2;go_ret;exact⟨rfl,by(repeat'(first|(with_reducible first|exact ay|apply aA|apply aB|apply aC|apply aF)|(right;simp;done)))⟩
theorem QI(w:World)(X:PX)(t:TS)(f:Int):Calls Tryz.prog 215 #[.agg (fM X t).toArray,.int .i64 f] w fun e w'=>e=.returned (.bool (decide (f=4)))/\Kept aj w w':=by
 have hb:(f==4)=decide (f=4):=by rw[Bool.eq_iff_iff];simp
 obtain⟨v,hv⟩:∃v,decide (f=4)=v:=⟨_,rfl⟩;rw[hv]at hb⊢;unfold fM bQ;simp only[List.cons_append,List.nil_append];clear hv;go_enter Tryz.func215,Tryz.ntmps215;go_wp2;go_ret;exact⟨rfl,by(repeat'(first|(with_reducible first|exact ay|apply aA|apply aB|apply aC|apply aF)|(right;simp;done)))⟩
theorem QJ(h:kN w X t)(h1:t.ph=1)(f:Int):Calls Tryz.prog 209 #[.pointer (some ⟨X.g,0,none⟩),.int .i64 f] w fun e w'=>e=.returned (.bool (decide (f=t.a.nd)))/\Kept aj w w':=by
 have hg:=h.g h1;have q:w.cell? ⟨X.g,4,none⟩=some (.int .i64 t.a.nd):=hg.cell 4;obtain⟨nd,hnd⟩:∃nd,t.a.nd=nd:=⟨_,rfl⟩;rw[hnd]at q⊢;have hb:(f==nd)=decide (f=nd):=by rw[Bool.eq_iff_iff];simp
 obtain⟨v,hv⟩:∃v,decide (f=nd)=v:=⟨_,rfl⟩;rw[hv]at hb⊢;clear hg hv hnd h;go_enter Tryz.func209,Tryz.ntmps209;go_wp2;try go_quiet (fail)
 try go_wp2
 go_ret;exact⟨rfl,by(repeat'(first|(with_reducible first|exact ay|apply aA|apply aB|apply aC|apply aF)|(right;simp;done)))⟩
theorem yI{r:o8}{A:Option Addr}{c:Nat}(hr:∀k,(Value.slice A r.ps.length c).ownBlock=some k->jW X t k\/w.heap.size<=k){k:Nat}(hk:jW {X with rA:=A,rc:=c} (eG t r) k):jW X t k\/w.heap.size<=k:=by
 rcases hk with e|e|e|e|e
 ·exact .inl (.inl e)
 ·exact .inl (.inr (.inl e))
 ·exact .inl (.inr (.inr (.inl e)))
 ·exact .inl (.inr (.inr (.inr (.inl e))))
 ·exact hr k e
theorem dY.same{v:Value}(h:kN w X t){w2:World}(hk:Kept aj w w2):dY w X t v t (.returned v) w2:=⟨rfl,X,h.quiet hk,rfl,fun k hk=> .inl hk,hk.mono (fun _ z=>z.elim)⟩
theorem QK(h:kN w X t)(x:aO):Calls Tryz.prog 217 #[.agg (fM X t).toArray,.pointer (some ⟨X.b,0,none⟩),aK x] w (dY w X t (.bool (takeA t x).2) (takeA t x).1):=by
 obtain⟨W0,hW0⟩:∃W0,(w.alloc (.cells (fM X t).toArray 115)).alloc (.cells (au x).toArray 63)=W0:=⟨_,rfl⟩;have hk0:Kept aj w W0:=by rw[<-hW0];(repeat'(first|(with_reducible first|exact ay|apply aA|apply aB|apply aC|apply aF)|(right;simp;done)))
 have hc0:Has W0 w.heap.size 115 (fM X t).toArray:=by rw[<-hW0];exact(Has.new _ _ _).alloc _
 have hn0:Has W0 (w.heap.size+1) 63 (au x).toArray:=by rw[<-hW0];exact Has.dQ _ _ _ (by simp)
 have h0:=h.quiet hk0;have HH:=ah h;have aS:=ah hk0;have HH0:=ah h0;have m0:W0.cell? ⟨w.heap.size+1,0,none⟩=some (.int .i64 x.k):=hn0.cell 0;have m5:W0.cell? ⟨w.heap.size+1,5,none⟩=some (.int .u64 x.at'):=hn0.cell 5;have m7:W0.cell? ⟨w.heap.size+1,7,none⟩=some (.int .i64 x.n):=hn0.cell 7;have m10:W0.cell? ⟨w.heap.size+1,10,none⟩=some (.int .i64 x.e):=hn0.cell 10;have q3:W0.cell? ⟨w.heap.size,3,none⟩=some (.int .i64 t.a.k):=hc0.cell 3;have q5:W0.cell? ⟨w.heap.size,5,none⟩=some (.string t.a.key):=hc0.cell 5;have hend:=fun r=>qO h0 r none 0;have aX:=ah hend;unfold fM bQ au at hW0;simp only[List.cons_append,List.nil_append]at hW0;unfold aK fM bQ au;simp only[List.cons_append,List.nil_append];have xJ:=ah hc0;clear h hk0 hc0 hn0 h0 hend;by_cases xK:x.k=14
 ·have hb:(x.k==14)=true:=by simpa using xK
  have hx:takeA t x=(eG t ⟨0,0,0,x.n,[]⟩,false):=by unfold takeA;rw[if_pos xK]
  rw[hx];clear xK hx;have hend:=aX.out (⟨0,0,0,x.n,[]⟩) ⟨rfl,.inl ⟨rfl,rfl⟩⟩;have HE:=ah hend;clear hend;go_enter Tryz.func217,Tryz.ntmps217;go_wp2_with fail;clear hW0 m0 m5 m7 m10 q3 q5;refine HE.out.mono ?_;rintro e w2 ⟨rfl,hp2,hk2⟩;have HP2:=ah hp2;have gJ:=ah hk2;clear hp2 hk2;go_wp2;go_ret;exact dY.zQ (w1:=W0) (aS.out.mono (fun _ z=>z.elim)) HP2.out gJ.out (fun k hk=>yI (fun k hk=>by cases hk) hk)
 have hb:(x.k==14)=false:=by simpa using xK
 by_cases h7:x.k=7
 ·have hb7:(x.k==7)=true:=by simpa using h7
  have hx:takeA t x=(eG t ⟨0,x.e,0,0,[]⟩,false):=by unfold takeA;rw[if_neg xK,if_pos h7]
  rw[hx];clear xK h7 hx;have hend:=aX.out (⟨0,x.e,0,0,[]⟩) ⟨rfl,.inl ⟨rfl,rfl⟩⟩;have HE:=ah hend;clear hend;go_enter Tryz.func217,Tryz.ntmps217;go_wp2_with fail;clear hW0 m0 m5 m7 m10 q3 q5;refine HE.out.mono ?_;rintro e w2 ⟨rfl,hp2,hk2⟩;have HP2:=ah hp2;have gJ:=ah hk2;clear hp2 hk2;go_wp2;go_ret;exact dY.zQ (w1:=W0) (aS.out.mono (fun _ z=>z.elim)) HP2.out gJ.out (fun k hk=>yI (fun k hk=>by cases hk) hk)
 ·have hb7:(x.k==7)=false:=by simpa using h7
  have hx:takeA t x=(t,false):=by unfold takeA;rw[if_neg xK,if_neg h7]
  rw[hx];clear xK h7 hx;go_enter Tryz.func217,Tryz.ntmps217;go_wp2;go_ret;exact dY.same HH.out (by(repeat'(first|(with_reducible first|exact ay|apply aA|apply aB|apply aC|apply aF)|(exact aS.out)|(right;simp;done))))
theorem QL(h:kN w X t)(h0p:t.ph=0)(hnd:t.dn=false)(x:aO):Calls Tryz.prog 207 #[.agg (fM X t).toArray,.pointer (some ⟨X.b,0,none⟩),aK x] w (dY w X t (.bool (lN t x).2) (lN t x).1):=by
 obtain⟨W0,hW0⟩:∃W0,(w.alloc (.cells (fM X t).toArray 111)).alloc (.cells (au x).toArray 63)=W0:=⟨_,rfl⟩;have hk0:Kept aj w W0:=by rw[<-hW0];(repeat'(first|(with_reducible first|exact ay|apply aA|apply aB|apply aC|apply aF)|(right;simp;done)))
 have hc0:Has W0 w.heap.size 111 (fM X t).toArray:=by rw[<-hW0];exact(Has.new _ _ _).alloc _
 have hn0:Has W0 (w.heap.size+1) 63 (au x).toArray:=by rw[<-hW0];exact Has.dQ _ _ _ (by simp)
 have h0:=h.quiet hk0;have HH:=ah h;have aS:=ah hk0;have HH0:=ah h0;have m0:W0.cell? ⟨w.heap.size+1,0,none⟩=some (.int .i64 x.k):=hn0.cell 0;have m5:W0.cell? ⟨w.heap.size+1,5,none⟩=some (.int .u64 x.at'):=hn0.cell 5;have m7:W0.cell? ⟨w.heap.size+1,7,none⟩=some (.int .i64 x.n):=hn0.cell 7;have m10:W0.cell? ⟨w.heap.size+1,10,none⟩=some (.int .i64 x.e):=hn0.cell 10;have q3:W0.cell? ⟨w.heap.size,3,none⟩=some (.int .i64 t.a.k):=hc0.cell 3;have q5:W0.cell? ⟨w.heap.size,5,none⟩=some (.string t.a.key):=hc0.cell 5;have hend:=fun r=>qO h0 r none 0;have aX:=ah hend;unfold fM bQ au at hW0;simp only[List.cons_append,List.nil_append]at hW0;unfold aK fM bQ au;simp only[List.cons_append,List.nil_append];have xJ:=ah hc0;clear h hk0 hc0 hn0 h0 hend;have iK:=ah (And.intro h0p hnd);clear h0p hnd;by_cases h7:x.k=7
 ·have hb7:(x.k==7)=true:=by simpa using h7
  have hb6:(x.k !=6)=true:=by simp[h7]
  by_cases h16:x.e=16
  ·have hb16:(x.e==16)=true:=by simpa using h16
   have hx:lN t x=(eG t ⟨0,x.e,0,0,[]⟩,false):=by unfold lN;rw[if_pos ⟨h7,h16⟩]
   rw[hx];clear h7 h16 hx;have hend:=aX.out (⟨0,x.e,0,0,[]⟩) ⟨rfl,.inl ⟨rfl,rfl⟩⟩;have HE:=ah hend;clear hend;go_enter Tryz.func207,Tryz.ntmps207;go_wp2_with fail;clear hW0 m0 m5 m7 m10 q3 q5;refine HE.out.mono ?_;rintro e w2 ⟨rfl,hp2,hk2⟩;have HP2:=ah hp2;have gJ:=ah hk2;clear hp2 hk2;go_wp2;go_ret;exact dY.zQ (w1:=W0) (aS.out.mono (fun _ z=>z.elim)) HP2.out gJ.out (fun k hk=>yI (fun k hk=>by cases hk) hk)
  ·have hb16:(x.e==16)=false:=by simpa using h16
   have hx:lN t x=(t,false):=by unfold lN;rw[if_neg (fun e=>h16 e.2),if_pos (by omega)]
   rw[hx];clear h7 h16 hx;go_enter Tryz.func207,Tryz.ntmps207;go_wp2;go_ret;exact dY.same HH.out (by(repeat'(first|(with_reducible first|exact ay|apply aA|apply aB|apply aC|apply aF)|(exact aS.out)|(right;simp;done))))
 have hb7:(x.k==7)=false:=by simpa using h7
 by_cases h6:x.k=6;rotate_left
 ·have hb6:(x.k !=6)=true:=by simpa using h6
  have hx:lN t x=(t,false):=by unfold lN;rw[if_neg (fun e=>h7 e.1),if_pos h6]
  rw[hx];clear h7 h6 hx;go_enter Tryz.func207,Tryz.ntmps207;go_wp2;go_ret;exact dY.same HH.out (by(repeat'(first|(with_reducible first|exact ay|apply aA|apply aB|apply aC|apply aF)|(exact aS.out)|(right;simp;done))))
 have hb6:(x.k !=6)=false:=by simpa using h6
 by_cases ha:t.a.k=0
 ·have hba:(t.a.k==0)=true:=by simpa using ha
  have hx:lN t x=(eG t ⟨0,0,x.at',0,[]⟩,false):=by unfold lN;rw[if_neg (fun e=>h7 e.1),if_neg (fun e=>e h6),if_pos ha]
  rw[hx];clear h7 h6 ha hx;have hend:=aX.out (⟨0,0,x.at',0,[]⟩) ⟨rfl,.inl ⟨rfl,rfl⟩⟩;have HE:=ah hend;clear hend;go_enter Tryz.func207,Tryz.ntmps207;go_wp2_with fail;clear hW0 m0 m5 m7 m10 q3 q5;refine HE.out.mono ?_;rintro e w2 ⟨rfl,hp2,hk2⟩;have HP2:=ah hp2;have gJ:=ah hk2;clear hp2 hk2;go_wp2;go_ret;exact dY.zQ (w1:=W0) (aS.out.mono (fun _ z=>z.elim)) HP2.out gJ.out (fun k hk=>yI (fun k hk=>by cases hk) hk)
 have hba:(t.a.k==0)=false:=by simpa using ha
 have hx:lN t x=({t with ph:=1,at':=x.at',key:=t.a.key,ps:=[],waits:=0},true):=by unfold lN;rw[if_neg (fun e=>h7 e.1),if_neg (fun e=>e h6),if_neg ha]
 rw[hx];obtain⟨bb,hbb⟩:∃bb,X.b=bb:=⟨_,rfl⟩;have q0:W0.cell? ⟨w.heap.size,0,none⟩=some (.int .i64 t.cl):=xJ.out.cell 0;have q1:W0.cell? ⟨w.heap.size,1,none⟩=some (.int .i64 t.rq):=xJ.out.cell 1;have q2:W0.cell? ⟨w.heap.size,2,none⟩=some (.slice X.bA t.bo.length X.bc):=xJ.out.cell 2;have q4:W0.cell? ⟨w.heap.size,4,none⟩=some (.int .i64 t.a.nd):=xJ.out.cell 4;have q6:W0.cell? ⟨w.heap.size,6,none⟩=some (.string t.a.to):=xJ.out.cell 6;have q7:W0.cell? ⟨w.heap.size,7,none⟩=some (.int .u64 t.a.at'):=xJ.out.cell 7;have q8:W0.cell? ⟨w.heap.size,8,none⟩=some (.int .i64 t.a.n):=xJ.out.cell 8;have q9:W0.cell? ⟨w.heap.size,9,none⟩=some (.slice t.a.A t.a.ops.length t.a.c):=xJ.out.cell 9;obtain⟨W1,hW1⟩:∃W1,W0.alloc (.cells #[.int .i64 t.cl,.int .i64 t.rq,.slice X.bA t.bo.length X.bc,.int .i64 t.a.k,.int .i64 t.a.nd,.string t.a.key,.string t.a.to,.int .u64 t.a.at',.int .i64 t.a.n,.slice t.a.A t.a.ops.length t.a.c,.int .u64 x.at',.string t.a.key,.slice none 0 0] 114)=W1:=⟨_,rfl⟩;have hk1:Kept aj W0 W1:=by rw[<-hW1];(repeat'(first|(with_reducible first|exact ay|apply aA|apply aB|apply aC|apply aF)|(right;simp;done)))
 have hg1:Has W1 W0.heap.size 114 #[.int .i64 t.cl,.int .i64 t.rq,.slice X.bA t.bo.length X.bc,.int .i64 t.a.k,.int .i64 t.a.nd,.string t.a.key,.string t.a.to,.int .u64 t.a.at',.int .i64 t.a.n,.slice t.a.A t.a.ops.length t.a.c,.int .u64 x.at',.string t.a.key,.slice none 0 0]:=by rw[<-hW1];exact Has.new _ _ _
 have hz1:=(HH0.out.quiet hk1).b;have iL:=ah hk1;have HG1:=ah hg1;have hb0:=HH0.out.b;rw[hbb]at hb0 hz1⊢;have f0:=hz1.frozen 0;have f2:=hz1.frozen 2;have z0:=hz1.cell 0;have z2:=hz1.cell 2;simp[uI]at z0 z2;have abh:=hb0.lt;clear h7 h6 ha hx hb0 hz1 hk1 hg1;have fF:=ah hbb;have jm:=ah abh;clear hbb;go_enter Tryz.func207,Tryz.ntmps207;go_wp2;go_ret;have e9:=fF.out;subst e9;have hk1:=iL.out;have hg1:=HG1.out;have h1:=HH0.out.quiet hk1;have hk2:Kept (fun k=>k=X.b) W1 ((W1.setCell ⟨X.b,0,none⟩ (.iface 112 (.pointer (some ⟨W0.heap.size,0,none⟩)))).setCell ⟨X.b,2,none⟩ (.int .i64 0)):=by(repeat'(first|(with_reducible first|exact ay|apply aA|apply aB|apply aC|apply aF)|(exact .inl rfl)|(right;simp;done)))
 have hb2:=((h1.b.put 0 (.iface 112 (.pointer (some ⟨W0.heap.size,0,none⟩)))).put 2 (.int .i64 0));have hnd:=iK.out.2;have hg0:=h1.g0 (by rw[iK.out.1];decide);have hne:∀{e:TypeId} {size n:Nat} {v:Value} {xs:List Value},W1.ownsRow 0 e size v n xs->e≠109->((W1.setCell ⟨X.b,0,none⟩ (.iface 112 (.pointer (some ⟨W0.heap.size,0,none⟩)))).setCell ⟨X.b,2,none⟩ (.int .i64 0)).ownsRow 0 e size v n xs:=fun ho he=>aP ho hk2 (fun k hk3 e2=>own_ne ho h1.b he (e2▸hk3));refine⟨rfl,{X with g:=W0.heap.size},⟨?_,fun _=> ?_,fun e=>absurd rfl e,hne h1.bo (by decide),?_,hne h1.r (by decide),h1.nd⟩,rfl,fun k hk=> ?_,?_⟩
 ·exact hb2
 ·have hgx:rJ {X with g:=W0.heap.size} {t with ph:=1,at':=x.at',key:=t.a.key,ps:=[],waits:=0}=#[.int .i64 t.cl,.int .i64 t.rq,.slice X.bA t.bo.length X.bc,.int .i64 t.a.k,.int .i64 t.a.nd,.string t.a.key,.string t.a.to,.int .u64 t.a.at',.int .i64 t.a.n,.slice t.a.A t.a.ops.length t.a.c,.int .u64 x.at',.string t.a.key,.slice none 0 0]:=by unfold rJ fM;dsimp only;rw[hg0.2.1,hg0.2.2.1];rfl
  rw[hgx];exact hg1.kept hk2 (fun e=>by have:=jm.out;omega)
 ·show World.ownsRow _ 0 84 2 (.slice X.pA 0 X.pc) 0 [];rw[hg0.2.1,hg0.2.2.1];exact⟨rfl,.inl ⟨rfl,rfl⟩⟩
 ·rcases hk with e|e|e|e|e
  ·exact .inl (.inl e)
  ·exact .inr (by rw[e];exact aS.out.size)
  ·have e2:(Value.slice X.pA 0 X.pc).ownBlock=some k:=e;rw[hg0.2.1]at e2;cases e2
  ·exact .inl (.inr (.inr (.inr (.inl e))))
  ·exact .inl (.inr (.inr (.inr (.inr e))))
 ·exact((aS.out.then hk1).mono (fun _ z=>z.elim)).then (hk2.mono (fun k e=> .inl e))
end
end Ask
namespace Keys
theorem QM(s:ByteArray)(w:World)(h:s.toList.isEmpty=true\/8<s.size):
  Calls Tryz.prog 86 #[.string s] w fun e w'=>e=.returned (.int .i64 10)/\w=w':=by
 rcases h with h|h
 ·go_enter Tryz.func86,Tryz.ntmps86;go_wp2;go_ret;exact⟨rfl,rfl⟩
 ·go_enter Tryz.func86,Tryz.ntmps86;go_wp2;all_goals go_ret
  all_goals exact⟨rfl,rfl⟩
theorem UL(s:ByteArray)(w:World)(h:s.toList.isEmpty=false)(h8:s.size<=8):
  Calls Tryz.prog 86 #[.string s] w fun e w'=>e=.returned (.int .i64 0)/\w=w':=by
 go_enter Tryz.func86,Tryz.ntmps86;go_wp2;go_ret;exact⟨rfl,rfl⟩
theorem Oz(s:ByteArray)(w:World)(h:s.size<8):
  Calls Tryz.prog 214 #[.string s] w fun e w'=>e=.returned (.string (s++⟨#[0]⟩))/\w=w':=by
 go_enter Tryz.func214,Tryz.ntmps214;go_wp2;go_ret;exact⟨rfl,rfl⟩
theorem zJ(W:World)(b:Nat)(n:Int)(c:Nat)(hn:0<=n)(hn':n<256)(hc:W.cell? ⟨b,0,none⟩=some (.int .u8 n)):
  (convert 205 9 (.slice (some ⟨b,0,none⟩) 1 c)).run Tryz.prog W=.ok (.string ⟨#[UInt8.ofNat n.toNat]⟩) W:=by
 refine Lib.run_convert_whole (P:=Tryz.prog) W 205 5 9 Tryz.underlying205 Tryz.underlying5 Tryz.underlying9 b 0 ⟨#[UInt8.ofNat n.toNat]⟩ ?_ c;intro i hi;have h0:i=0:=by have:i<1:=hi;omega
 subst h0;rw[Nat.add_zero,hc];show _=some (Value.int IntKind.u8 ((UInt8.ofNat n.toNat).toNat:Int));congr 2;simp;omega
def QN(l:List UInt8)(B:Nat)(w:World)(e:Ending)(w':World):Prop:=∃s':ByteArray,e=.returned (.string s')/\s'.data.toList=l/\Below B w w'
set_option maxRecDepth 100000 in
theorem QO(s:ByteArray)(w:World)(h:8<=s.size)(h':s.size<=maxLen):
  Calls Tryz.prog 214 #[.string s] w (QN (jM s.data.toList 8) w.heap.size w):=by
 unfold maxLen at h';go_enter Tryz.func214,Tryz.ntmps214;go_wp2;go_loopw [2,3,4,10] (fun v _ _ i wr=>wr=w/\v=.string ⟨#[]⟩/\∃k:Nat,k<=8/\i=.int .i64 k/\jM s.data.toList 8=jM s.data.toList (8-k)) (fun _ _ _ i _=>8-(intOf i).toNat)
 case atStart=>exact⟨rfl,rfl,0,by omega,rfl,rfl⟩
 case round=>
  obtain⟨rfl,rfl,k,hk,rfl,he⟩:=hrel;have HE:=Lib.hid he;clear he;by_cases hlt:k<8
  ·have hb:0<=(7:Int)-k:=by omega
   have hb':(7:Int)-k<s.size:=by omega
   go_wp2
   ·have hlt2:(s[7-k].toNat:Int)<255:=by assumption
    have hcv:=zJ (wr.alloc (Obj.cells #[Value.int IntKind.u8 (↑s[7-k].toNat+1)] 5)).drew wr.heap.size (↑s[7-k].toNat+1) 1 (by omega) (by omega) (by simp);have hb3:7-(k:Int)<=s.size:=by omega
    go_region;go_wp2;go_ret;refine⟨_,rfl,?_,(Below.refl _ _).alloc (Nat.le_refl _) _|>.drew⟩;have e1:8-k=(7-k)+1:=by omega
    have e2:s.data.toList.getD (7-k) 0=s[7-k]:=by rw[List.getD_eq_getElem?_getD,lB0 (by simp;omega)];rfl
    rw[HE.out,e1,jM,e2,if_pos (by rw[UInt8.lt_iff_toNat_lt];have:(255:UInt8).toNat=255:=rfl;omega),ByteArray.data_append,Array.toList_append,Lib.extract_data];simp
   ·go_roundw
    case rel=>
     refine⟨trivial,rfl,k+1,by omega,by go_num,?_⟩;have hge:255<=(s[7-k].toNat:Int):=by assumption
     have e1:8-k=(7-k)+1:=by omega
     have e2:s.data.toList.getD (7-k) 0=s[7-k]:=by rw[List.getD_eq_getElem?_getD,lB0 (by simp;omega)];rfl
     have e3:7-k=8-(k+1):=by omega
     rw[HE.out,e1,jM,e2,if_neg (by rw[UInt8.lt_iff_toNat_lt];have:(255:UInt8).toNat=255:=rfl;omega),e3]
    case measure=>simp[intOf];omega
  ·go_wp2;go_ret;refine⟨_,rfl,?_,Below.refl _ _⟩;have e1:8-k=0:=by omega
   rw[HE.out,e1,jM]
theorem next_any(s:ByteArray)(w:World)(h':s.size<=maxLen):Calls Tryz.prog 214 #[.string s] w (QN (nextL s.data.toList) w.heap.size w):=by
 have hl:s.data.toList.length=s.size:=by simp
 unfold nextL;by_cases h:s.size<8
 ·rw[if_pos (by omega)];refine(Oz s w h).mono ?_;rintro e w' ⟨rfl,rfl⟩;exact⟨_,rfl,by rw[ByteArray.data_append,Array.toList_append],Below.refl _ _⟩
 ·rw[if_neg (by omega)];exact QO s w (by omega) h'

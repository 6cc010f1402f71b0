/- Part 22. -/
import Derived.Test.YtgbigpdiacjbgaaGreatKP20
set_option linter.unusedSimpArgs false
set_option linter.unusedVariables false
set_option maxHeartbeats 32000000
set_option maxRecDepth 100000
namespace Go.Proofs.YtgbigpdiacjbgaaGreat
open Go.RowKit
namespace eP
open bg Ops fG Vn
theorem Kept.iterAt{F:Nat->Prop}{a w:World}(h:Kept F a w){k:Nat}(hk:F k\/a.heap.size<=k)(s:ByteArray)(pos:Nat):Kept F a (w.iterAt k s pos):=
 h.trans (G:=fun j=>j=k) ⟨rfl,rfl,rfl,by rw[Lib.iterAt_size];exact Nat.le_refl _,fun i _ hi=>Lib.iterAt_other w k i s pos hi⟩ fun i hi=>by subst hi;exact hk
theorem Kept.iter{F:Nat->Prop}{a w:World}(h:Kept F a w)(s:ByteArray)(pos:Nat):Kept F a (w.iter s pos):=h.alloc _
theorem O6(W:World)(B:Nat)(x:aO)(hB:Has W B 63 (au x).toArray)(h:pU W x):
  Calls Tryz.prog 145 #[.pointer (some ⟨B,0,none⟩)] W fun e w'=>e=.returned (.int .i64 (bK (fun y=>Ops.chk (lZ y)) x.es))/\Kept aj W w':=by
 have q:W.cell? ⟨B,19,none⟩=some (.slice x.eA x.es.length x.ec):=hB.cell 19;have hc:=Nk W x.eA x.ec x.es h.e (by have:=h.el;omega) (fun y hy=>(h.eo y hy).1);obtain⟨r,hr⟩:∃r,bK (fun y=>Ops.chk (lZ y)) x.es=r:=⟨_,rfl⟩;rw[hr]at hc⊢;have HC:=ah hc;clear hc hr h hB;go_enter Tryz.func145,Tryz.ntmps145;go_wp2_with fail;refine HC.out.mono ?_;rintro e w2 ⟨rfl,hk⟩;have HK:=ah hk;clear hk;go_wp2;go_ret;exact⟨rfl,HK.out⟩
theorem O7(W:World)(B:Nat)(x:aO)(hB:Has W B 63 (au x).toArray)(h:pU W x):
  Calls Tryz.prog 147 #[.pointer (some ⟨B,0,none⟩)] W fun e w'=>e=.returned (.int .i64 (bK mY x.ps))/\Kept aj W w':=by
 have q:W.cell? ⟨B,21,none⟩=some (.slice x.pA x.ps.length x.pc):=hB.cell 21;have hc:=RQ W x.pA x.pc x.ps h.p (by have:=h.pl;omega);obtain⟨r,hr⟩:∃r,bK mY x.ps=r:=⟨_,rfl⟩;rw[hr]at hc⊢;have HC:=ah hc;clear hc hr h hB;go_enter Tryz.func147,Tryz.ntmps147;go_wp2_with fail;refine HC.out.mono ?_;rintro e w2 ⟨rfl,hk⟩;have HK:=ah hk;clear hk;go_wp2;go_ret;exact⟨rfl,HK.out⟩
theorem RU(w:World)(x:aO)(c:Nat)(hc:isNum c=true):Calls Tryz.prog 106 #[aK x,.int .i32 c] w fun e w'=>e=.returned (.int .i64 (aT x c))/\Kept aj w w':=by
 have hE:aT x c=qM (mP x c):=by unfold aT;rw[if_pos hc]
 rw[hE];clear hE;obtain⟨W0,hW0⟩:∃W0,w.alloc (.cells (au x).toArray 63)=W0:=⟨_,rfl⟩;have hk0:Kept aj w W0:=by rw[<-hW0];(repeat'(first|(with_reducible first|exact ay|apply aA|apply aB|apply aC|apply aF)|(right;simp;done)))
 have hn0:Has W0 w.heap.size 63 (au x).toArray:=by rw[<-hW0];exact Has.new _ _ _
 have hnum:=FN W0 w.heap.size c hc;have q:W0.cell? ⟨w.heap.size,numAt c,none⟩=some (.int .i64 (mP x c)):=by have h:c=101\/c=115\/c=114\/c=110\/c=109\/c=112:=of_decide_eq_true hc;rcases h with rfl|rfl|rfl|rfl|rfl|rfl<;>exact hn0.cell _
 obtain⟨n,hn⟩:∃n,mP x c=n:=⟨_,rfl⟩;obtain⟨a,ha⟩:∃a,numAt c=a:=⟨_,rfl⟩;rw[hn,ha]at q;rw[ha]at hnum;rw[hn];have HN:=ah hnum;have aS:=ah hk0;clear hn ha hn0 hc hk0 hnum;unfold qM;by_cases h1:n<0
 ·rw[if_pos (.inl h1)];go_enter Tryz.func106,Tryz.ntmps106;go_wp2_with fail;refine HN.out.mono ?_;rintro e w2 ⟨rfl,rfl⟩;go_wp2;go_ret;exact⟨rfl,aS.out⟩
 by_cases h2:1073741824<n
 ·rw[if_pos (.inr h2)];go_enter Tryz.func106,Tryz.ntmps106;go_wp2_with fail;refine HN.out.mono ?_;rintro e w2 ⟨rfl,rfl⟩;go_wp2;go_ret;exact⟨rfl,aS.out⟩
 ·rw[if_neg (by omega)];go_enter Tryz.func106,Tryz.ntmps106;go_wp2_with fail;refine HN.out.mono ?_;rintro e w2 ⟨rfl,rfl⟩;go_wp2;go_ret;exact⟨rfl,aS.out⟩
theorem Vh(w:World)(x:aO)(h:pU w x):Calls Tryz.prog 106 #[aK x,.int .i32 ((97:Nat):Int)] w fun e w'=>e=.returned (.int .i64 (aT x 97))/\Kept aj w w':=by
 obtain⟨W0,hW0⟩:∃W0,w.alloc (.cells (au x).toArray 63)=W0:=⟨_,rfl⟩;have hk0:Kept aj w W0:=by rw[<-hW0];(repeat'(first|(with_reducible first|exact ay|apply aA|apply aB|apply aC|apply aF)|(right;simp;done)))
 have hn0:Has W0 w.heap.size 63 (au x).toArray:=by rw[<-hW0];exact Has.new _ _ _
 have hE:aT x 97=0:=rfl;rw[hE];have hnum:=fC W0 w.heap.size 97 (by decide) (by decide);have HN:=ah hnum;have aS:=ah hk0;clear hk0 hnum hE;clear hn0 h;go_enter Tryz.func106,Tryz.ntmps106;go_wp2_with fail;refine HN.out.mono ?_;rintro e w2 ⟨rfl,rfl⟩;go_wp2;go_ret;exact⟨rfl,aS.out⟩
theorem RV(w:World)(x:aO)(h:pU w x):Calls Tryz.prog 106 #[aK x,.int .i32 ((108:Nat):Int)] w fun e w'=>e=.returned (.int .i64 (aT x 108))/\Kept aj w w':=by
 obtain⟨W0,hW0⟩:∃W0,w.alloc (.cells (au x).toArray 63)=W0:=⟨_,rfl⟩;have hk0:Kept aj w W0:=by rw[<-hW0];(repeat'(first|(with_reducible first|exact ay|apply aA|apply aB|apply aC|apply aF)|(right;simp;done)))
 have hn0:Has W0 w.heap.size 63 (au x).toArray:=by rw[<-hW0];exact Has.new _ _ _
 have hE:aT x 108=0:=rfl;rw[hE];have hnum:=fC W0 w.heap.size 108 (by decide) (by decide);have HN:=ah hnum;have aS:=ah hk0;clear hk0 hnum hE;clear hn0 h;go_enter Tryz.func106,Tryz.ntmps106;go_wp2_with fail;refine HN.out.mono ?_;rintro e w2 ⟨rfl,rfl⟩;go_wp2;go_ret;exact⟨rfl,aS.out⟩
theorem RX(w:World)(x:aO)(h:pU w x):Calls Tryz.prog 106 #[aK x,.int .i32 ((102:Nat):Int)] w fun e w'=>e=.returned (.int .i64 (aT x 102))/\Kept aj w w':=by
 obtain⟨W0,hW0⟩:∃W0,w.alloc (.cells (au x).toArray 63)=W0:=⟨_,rfl⟩;have hk0:Kept aj w W0:=by rw[<-hW0];(repeat'(first|(with_reducible first|exact ay|apply aA|apply aB|apply aC|apply aF)|(right;simp;done)))
 have hn0:Has W0 w.heap.size 63 (au x).toArray:=by rw[<-hW0];exact Has.new _ _ _
 have hE:aT x 102=0:=rfl;rw[hE];have hnum:=fC W0 w.heap.size 102 (by decide) (by decide);have HN:=ah hnum;have aS:=ah hk0;clear hk0 hnum hE;clear hn0 h;go_enter Tryz.func106,Tryz.ntmps106;go_wp2_with fail;refine HN.out.mono ?_;rintro e w2 ⟨rfl,rfl⟩;go_wp2;go_ret;exact⟨rfl,aS.out⟩
theorem RY(w:World)(x:aO)(h:pU w x):Calls Tryz.prog 106 #[aK x,.int .i32 ((120:Nat):Int)] w fun e w'=>e=.returned (.int .i64 (aT x 120))/\Kept aj w w':=by
 obtain⟨W0,hW0⟩:∃W0,w.alloc (.cells (au x).toArray 63)=W0:=⟨_,rfl⟩;have hk0:Kept aj w W0:=by rw[<-hW0];(repeat'(first|(with_reducible first|exact ay|apply aA|apply aB|apply aC|apply aF)|(right;simp;done)))
 have hn0:Has W0 w.heap.size 63 (au x).toArray:=by rw[<-hW0];exact Has.new _ _ _
 have hE:aT x 120=if x.e<0\/21<x.e then 1 else 0:=rfl;rw[hE];have hnum:=fC W0 w.heap.size 120 (by decide) (by decide);have HN:=ah hnum;have aS:=ah hk0;clear hk0 hnum hE;have q:W0.cell? ⟨w.heap.size,10,none⟩=some (.int .i64 x.e):=hn0.cell 10;obtain⟨n,hn⟩:∃n,x.e=n:=⟨_,rfl⟩;rw[hn]at q⊢;clear hn0 h hn;by_cases h1:n<0
 ·rw[if_pos (.inl h1)];go_enter Tryz.func106,Tryz.ntmps106;go_wp2_with fail;refine HN.out.mono ?_;rintro e w2 ⟨rfl,rfl⟩;go_wp2;go_ret;exact⟨rfl,aS.out⟩
 by_cases h2:21<n
 ·rw[if_pos (.inr h2)];go_enter Tryz.func106,Tryz.ntmps106;go_wp2_with fail;refine HN.out.mono ?_;rintro e w2 ⟨rfl,rfl⟩;go_wp2;go_ret;exact⟨rfl,aS.out⟩
 ·rw[if_neg (by omega)];go_enter Tryz.func106,Tryz.ntmps106;go_wp2_with fail;refine HN.out.mono ?_;rintro e w2 ⟨rfl,rfl⟩;go_wp2;go_ret;exact⟨rfl,aS.out⟩
theorem RZ(w:World)(x:aO)(h:pU w x):Calls Tryz.prog 106 #[aK x,.int .i32 ((107:Nat):Int)] w fun e w'=>e=.returned (.int .i64 (aT x 107))/\Kept aj w w':=by
 obtain⟨W0,hW0⟩:∃W0,w.alloc (.cells (au x).toArray 63)=W0:=⟨_,rfl⟩;have hk0:Kept aj w W0:=by rw[<-hW0];(repeat'(first|(with_reducible first|exact ay|apply aA|apply aB|apply aC|apply aF)|(right;simp;done)))
 have hn0:Has W0 w.heap.size 63 (au x).toArray:=by rw[<-hW0];exact Has.new _ _ _
 have hE:aT x 107=if 8<x.key.size then 3 else 0:=rfl;rw[hE];have hnum:=fC W0 w.heap.size 107 (by decide) (by decide);have HN:=ah hnum;have aS:=ah hk0;clear hk0 hnum hE;have q:W0.cell? ⟨w.heap.size,11,none⟩=some (.string x.key):=hn0.cell 11;obtain⟨s,hs⟩:∃s,x.key=s:=⟨_,rfl⟩;rw[hs]at q⊢;have hl:=FO W0 s 8;obtain⟨u,hu⟩:∃u:Int,(if(8:Int)<(s.size:Int)then (3:Int)else 0)=u:=⟨_,rfl⟩;rw[hu]at hl;have hu2:(if 8<s.size then (3:Int)else 0)=u:=by rw[<-hu];by_cases h8:8<s.size;rw[if_pos h8,if_pos (by omega)];rw[if_neg h8,if_neg (by omega)]
 rw[hu2];have HL:=ah hl;clear hn0 h hs hl hu hu2;go_enter Tryz.func106,Tryz.ntmps106;go_wp2_with fail;refine HN.out.mono ?_;rintro e w2 ⟨rfl,rfl⟩;go_wp2_with fail;refine HL.out.mono ?_;rintro e w3 ⟨rfl,rfl⟩;go_wp2;go_ret;exact⟨rfl,aS.out⟩
theorem Si(w:World)(x:aO)(h:pU w x):Calls Tryz.prog 106 #[aK x,.int .i32 ((116:Nat):Int)] w fun e w'=>e=.returned (.int .i64 (aT x 116))/\Kept aj w w':=by
 obtain⟨W0,hW0⟩:∃W0,w.alloc (.cells (au x).toArray 63)=W0:=⟨_,rfl⟩;have hk0:Kept aj w W0:=by rw[<-hW0];(repeat'(first|(with_reducible first|exact ay|apply aA|apply aB|apply aC|apply aF)|(right;simp;done)))
 have hn0:Has W0 w.heap.size 63 (au x).toArray:=by rw[<-hW0];exact Has.new _ _ _
 have hE:aT x 116=if 8<x.to.size then 3 else 0:=rfl;rw[hE];have hnum:=fC W0 w.heap.size 116 (by decide) (by decide);have HN:=ah hnum;have aS:=ah hk0;clear hk0 hnum hE;have q:W0.cell? ⟨w.heap.size,12,none⟩=some (.string x.to):=hn0.cell 12;obtain⟨s,hs⟩:∃s,x.to=s:=⟨_,rfl⟩;rw[hs]at q⊢;have hl:=FO W0 s 8;obtain⟨u,hu⟩:∃u:Int,(if(8:Int)<(s.size:Int)then (3:Int)else 0)=u:=⟨_,rfl⟩;rw[hu]at hl;have hu2:(if 8<s.size then (3:Int)else 0)=u:=by rw[<-hu];by_cases h8:8<s.size;rw[if_pos h8,if_pos (by omega)];rw[if_neg h8,if_neg (by omega)]
 rw[hu2];have HL:=ah hl;clear hn0 h hs hl hu hu2;go_enter Tryz.func106,Tryz.ntmps106;go_wp2_with fail;refine HN.out.mono ?_;rintro e w2 ⟨rfl,rfl⟩;go_wp2_with fail;refine HL.out.mono ?_;rintro e w3 ⟨rfl,rfl⟩;go_wp2;go_ret;exact⟨rfl,aS.out⟩
theorem Vj(w:World)(x:aO)(h:pU w x):Calls Tryz.prog 106 #[aK x,.int .i32 ((67:Nat):Int)] w fun e w'=>e=.returned (.int .i64 (aT x 67))/\Kept aj w w':=by
 obtain⟨W0,hW0⟩:∃W0,w.alloc (.cells (au x).toArray 63)=W0:=⟨_,rfl⟩;have hk0:Kept aj w W0:=by rw[<-hW0];(repeat'(first|(with_reducible first|exact ay|apply aA|apply aB|apply aC|apply aF)|(right;simp;done)))
 have hn0:Has W0 w.heap.size 63 (au x).toArray:=by rw[<-hW0];exact Has.new _ _ _
 have hE:aT x 67=bg.chk x.fO x.ms:=rfl;rw[hE];have hnum:=fC W0 w.heap.size 67 (by decide) (by decide);have HN:=ah hnum;have aS:=ah hk0;clear hk0 hnum hE;have q1:W0.cell? ⟨w.heap.size,13,none⟩=some (.int .i64 x.fO):=hn0.cell 13;have q2:W0.cell? ⟨w.heap.size,14,none⟩=some (.slice x.mA x.ms.length x.mc):=hn0.cell 14;have q3:W0.cell? ⟨w.heap.size,15,none⟩=some (.int .u64 x.mG):=hn0.cell 15;have hx:=h.kept aS.out;have hc:=Mst.CJ W0 x.fO x.mG x.mA x.mc x.ms hx.m hx.mc (by have:=hx.ml;omega);obtain⟨u,hu⟩:∃u:Int,bg.chk x.fO x.ms=u:=⟨_,rfl⟩;rw[hu]at hc⊢;have HC:=ah hc;clear hn0 h hx hc hu;go_enter Tryz.func106,Tryz.ntmps106;go_wp2_with fail;refine HN.out.mono ?_;rintro e w2 ⟨rfl,rfl⟩;go_wp2_with fail;refine HC.out.mono ?_;rintro e w3 ⟨rfl,hk⟩;have HK:=ah (aS.out.then hk);clear hk;go_wp2;go_ret;exact⟨rfl,HK.out⟩
theorem Vk(w:World)(x:aO)(h:pU w x):Calls Tryz.prog 106 #[aK x,.int .i32 ((66:Nat):Int)] w fun e w'=>e=.returned (.int .i64 (aT x 66))/\Kept aj w w':=by
 obtain⟨W0,hW0⟩:∃W0,w.alloc (.cells (au x).toArray 63)=W0:=⟨_,rfl⟩;have hk0:Kept aj w W0:=by rw[<-hW0];(repeat'(first|(with_reducible first|exact ay|apply aA|apply aB|apply aC|apply aF)|(right;simp;done)))
 have hn0:Has W0 w.heap.size 63 (au x).toArray:=by rw[<-hW0];exact Has.new _ _ _
 have hE:aT x 66=Ops.chk (jU x):=rfl;rw[hE];have hnum:=fC W0 w.heap.size 66 (by decide) (by decide);have HN:=ah hnum;have aS:=ah hk0;clear hk0 hnum hE;have q1:W0.cell? ⟨w.heap.size,16,none⟩=some (.int .i64 x.o7):=hn0.cell 16;have q2:W0.cell? ⟨w.heap.size,17,none⟩=some (.int .i64 x.lK):=hn0.cell 17;have q3:W0.cell? ⟨w.heap.size,18,none⟩=some (.slice x.oA x.ops.length x.oc):=hn0.cell 18;have hx:=h.kept aS.out;have hc:=Ops.wI W0 (jU x) x.oA x.oc hx.o;obtain⟨u,hu⟩:∃u:Int,Ops.chk (jU x)=u:=⟨_,rfl⟩;rw[hu]at hc⊢;dsimp only[nT,jU]at hc;have HC:=ah hc;clear hn0 h hx hc hu;go_enter Tryz.func106,Tryz.ntmps106;go_wp2_with fail;refine HN.out.mono ?_;rintro e w2 ⟨rfl,rfl⟩;go_wp2_with fail;refine HC.out.mono ?_;rintro e w3 ⟨rfl,hk⟩;have HK:=ah (aS.out.then hk);clear hk;go_wp2;go_ret;exact⟨rfl,HK.out⟩
theorem Vl(w:World)(x:aO)(h:pU w x):Calls Tryz.prog 106 #[aK x,.int .i32 ((83:Nat):Int)] w fun e w'=>e=.returned (.int .i64 (aT x 83))/\Kept aj w w':=by
 obtain⟨W0,hW0⟩:∃W0,w.alloc (.cells (au x).toArray 63)=W0:=⟨_,rfl⟩;have hk0:Kept aj w W0:=by rw[<-hW0];(repeat'(first|(with_reducible first|exact ay|apply aA|apply aB|apply aC|apply aF)|(right;simp;done)))
 have hn0:Has W0 w.heap.size 63 (au x).toArray:=by rw[<-hW0];exact Has.new _ _ _
 have hE:aT x 83=if 8<x.ss.length then 6 else 0:=rfl;rw[hE];have hnum:=fC W0 w.heap.size 83 (by decide) (by decide);have HN:=ah hnum;have aS:=ah hk0;clear hk0 hnum hE;have q:W0.cell? ⟨w.heap.size,20,none⟩=some (.slice x.sA x.ss.length x.sc):=hn0.cell 20;obtain⟨n,hn⟩:∃n,x.ss.length=n:=⟨_,rfl⟩;rw[hn]at q⊢;have hl:=FP W0 (n:Int) 8;obtain⟨u,hu⟩:∃u:Int,(if(8:Int)<(n:Int)then (6:Int)else 0)=u:=⟨_,rfl⟩;rw[hu]at hl;have hu2:(if 8<n then (6:Int)else 0)=u:=by rw[<-hu];by_cases h8:8<n;rw[if_pos h8,if_pos (by omega)];rw[if_neg h8,if_neg (by omega)]
 rw[hu2];have HL:=ah hl;clear hn0 h hn hl hu hu2;go_enter Tryz.func106,Tryz.ntmps106;go_wp2_with fail;refine HN.out.mono ?_;rintro e w2 ⟨rfl,rfl⟩;go_wp2_with fail;refine HL.out.mono ?_;rintro e w3 ⟨rfl,rfl⟩;go_wp2;go_ret;exact⟨rfl,aS.out⟩
theorem Vm(w:World)(x:aO)(h:pU w x):Calls Tryz.prog 106 #[aK x,.int .i32 ((69:Nat):Int)] w fun e w'=>e=.returned (.int .i64 (aT x 69))/\Kept aj w w':=by
 obtain⟨W0,hW0⟩:∃W0,w.alloc (.cells (au x).toArray 63)=W0:=⟨_,rfl⟩;have hk0:Kept aj w W0:=by rw[<-hW0];(repeat'(first|(with_reducible first|exact ay|apply aA|apply aB|apply aC|apply aF)|(right;simp;done)))
 have hn0:Has W0 w.heap.size 63 (au x).toArray:=by rw[<-hW0];exact Has.new _ _ _
 have hE:aT x 69=if 4<x.es.length then 6 else bK (fun y=>Ops.chk (lZ y)) x.es:=rfl;rw[hE];have hnum:=fC W0 w.heap.size 69 (by decide) (by decide);have HN:=ah hnum;have aS:=ah hk0;clear hk0 hnum hE;have q:W0.cell? ⟨w.heap.size,19,none⟩=some (.slice x.eA x.es.length x.ec):=hn0.cell 19;have hcl:=O6 W0 w.heap.size x hn0 (h.kept aS.out);obtain⟨n,hn⟩:∃n,x.es.length=n:=⟨_,rfl⟩;obtain⟨r,hr⟩:∃r,bK (fun y=>Ops.chk (lZ y)) x.es=r:=⟨_,rfl⟩;rw[hr]at hcl⊢;rw[hn]at q⊢;have hl:=FP W0 (n:Int) 4;have HC:=ah hcl;clear hn0 h hn hr hcl;by_cases h8:4<n
 ·rw[if_pos (by omega)]at hl;rw[if_pos h8];have HL:=ah hl;clear hl h8;go_enter Tryz.func106,Tryz.ntmps106;go_wp2_with fail;refine HN.out.mono ?_;rintro e w2 ⟨rfl,rfl⟩;go_wp2_with fail;refine HL.out.mono ?_;rintro e w3 ⟨rfl,rfl⟩;go_wp2_with fail;refine(KZ _ _ _ (by decide)).mono ?_;rintro e w3 ⟨rfl,rfl⟩;go_wp2;go_ret;exact⟨rfl,aS.out⟩
 ·rw[if_neg (by omega)]at hl;rw[if_neg h8];have HL:=ah hl;clear hl h8;go_enter Tryz.func106,Tryz.ntmps106;go_wp2_with fail;refine HN.out.mono ?_;rintro e w2 ⟨rfl,rfl⟩;go_wp2_with fail;refine HL.out.mono ?_;rintro e w3 ⟨rfl,rfl⟩;go_wp2_with fail;refine(O5 _ 145 _ r (fun args W=>Mst.enters Tryz.func145 (by kernel_rfl) rfl args W) HC.out).mono ?_;rintro e w4 ⟨rfl,hk⟩;have HK:=ah (aS.out.then hk);clear hk;go_wp2;go_ret;exact⟨rfl,HK.out⟩
theorem Vo(w:World)(x:aO)(h:pU w x):Calls Tryz.prog 106 #[aK x,.int .i32 ((82:Nat):Int)] w fun e w'=>e=.returned (.int .i64 (aT x 82))/\Kept aj w w':=by
 obtain⟨W0,hW0⟩:∃W0,w.alloc (.cells (au x).toArray 63)=W0:=⟨_,rfl⟩;have hk0:Kept aj w W0:=by rw[<-hW0];(repeat'(first|(with_reducible first|exact ay|apply aA|apply aB|apply aC|apply aF)|(right;simp;done)))
 have hn0:Has W0 w.heap.size 63 (au x).toArray:=by rw[<-hW0];exact Has.new _ _ _
 have hE:aT x 82=if 32<x.ps.length then 6 else bK mY x.ps:=rfl;rw[hE];have hnum:=fC W0 w.heap.size 82 (by decide) (by decide);have HN:=ah hnum;have aS:=ah hk0;clear hk0 hnum hE;have q:W0.cell? ⟨w.heap.size,21,none⟩=some (.slice x.pA x.ps.length x.pc):=hn0.cell 21;have hcl:=O7 W0 w.heap.size x hn0 (h.kept aS.out);obtain⟨n,hn⟩:∃n,x.ps.length=n:=⟨_,rfl⟩;obtain⟨r,hr⟩:∃r,bK mY x.ps=r:=⟨_,rfl⟩;rw[hr]at hcl⊢;rw[hn]at q⊢;have hl:=FP W0 (n:Int) 32;have HC:=ah hcl;clear hn0 h hn hr hcl;by_cases h8:32<n
 ·rw[if_pos (by omega)]at hl;rw[if_pos h8];have HL:=ah hl;clear hl h8;go_enter Tryz.func106,Tryz.ntmps106;go_wp2_with fail;refine HN.out.mono ?_;rintro e w2 ⟨rfl,rfl⟩;go_wp2_with fail;refine HL.out.mono ?_;rintro e w3 ⟨rfl,rfl⟩;go_wp2_with fail;refine(KZ _ _ _ (by decide)).mono ?_;rintro e w3 ⟨rfl,rfl⟩;go_wp2;go_ret;exact⟨rfl,aS.out⟩
 ·rw[if_neg (by omega)]at hl;rw[if_neg h8];have HL:=ah hl;clear hl h8;go_enter Tryz.func106,Tryz.ntmps106;go_wp2_with fail;refine HN.out.mono ?_;rintro e w2 ⟨rfl,rfl⟩;go_wp2_with fail;refine HL.out.mono ?_;rintro e w3 ⟨rfl,rfl⟩;go_wp2_with fail;refine(O5 _ 147 _ r (fun args W=>Mst.enters Tryz.func147 (by kernel_rfl) rfl args W) HC.out).mono ?_;rintro e w4 ⟨rfl,hk⟩;have HK:=ah (aS.out.then hk);clear hk;go_wp2;go_ret;exact⟨rfl,HK.out⟩
theorem Sj(w:World)(x:aO)(c:Nat)(h:pU w x)(hl:c∈letters):Calls Tryz.prog 106 #[aK x,.int .i32 c] w fun e w'=>e=.returned (.int .i64 (aT x c))/\Kept aj w w':=by
 by_cases hc:isNum c=true
 ·exact RU w x c hc
 ·have h2:¬(c=101\/c=115\/c=114\/c=110\/c=109\/c=112):=fun z=>hc (decide_eq_true z);have h1:c=67\/c=97\/c=102\/c=108\/c=69\/c=83\/c=66\/c=120\/c=107\/c=116\/c=82:=by unfold letters at hl;simp only[List.mem_cons,List.not_mem_nil,or_false]at hl;omega
  rcases h1 with rfl|rfl|rfl|rfl|rfl|rfl|rfl|rfl|rfl|rfl|rfl
  ·exact Vj w x h
  ·exact Vh w x h
  ·exact RX w x h
  ·exact RV w x h
  ·exact Vm w x h
  ·exact Vl w x h
  ·exact Vk w x h
  ·exact RY w x h
  ·exact RZ w x h
  ·exact Si w x h
  ·exact Vo w x h
theorem AO(l:List Nat):(lets l).size=l.length:=by unfold lets kX;rw[<-iw,lH,List.length_map]
theorem Ic{l:List Nat}(hl:∀c∈l,c∈letters){i c:Nat}(h:l[i]? =some c):∃hi:i<(lets l).size,((lets l)[i]'hi).toNat=c/\((lets l)[i]'hi).toNat<128:=by
 obtain⟨hi,he⟩:=lD0.1 h;have hi2:i<(lets l).size:=by rw[AO];exact hi
 have hc:c<128:=by have:=hl c (he▸List.getElem_mem hi);unfold letters at this;simp only[List.mem_cons,List.not_mem_nil,or_false]at this;omega
 have e:((lets l)[i]'hi2).toNat=c:=by
  have e1:(lets l)[i]'hi2=UInt8.ofNat c:=by show(lets l).data[i]'_=_;have:(lets l).data=(kX l).toArray:=rfl;simp only[this,List.getElem_toArray,kX,List.getElem_map,he]
  rw[e1];show c%256=c;omega
 exact⟨hi2,e,by rw[e];exact hc⟩
theorem GL(w:World)(x:aO)(h:pU w x):Calls Tryz.prog 64 #[aK x] w fun e w'=>e=.returned (.int .i64 (dP x))/\Kept aj w w':=by
 obtain⟨W0,hW0⟩:∃W0,w.alloc (.cells (au x).toArray 63)=W0:=⟨_,rfl⟩;have hk0:Kept aj w W0:=by rw[<-hW0];(repeat'(first|(with_reducible first|exact ay|apply aA|apply aB|apply aC|apply aF)|(right;simp;done)))
 have hn0:Has W0 w.heap.size 63 (au x).toArray:=by rw[<-hW0];exact Has.new _ _ _
 have q:W0.cell? ⟨w.heap.size,0,none⟩=some (.int .i64 x.k):=hn0.cell 0;obtain⟨k,hk⟩:∃k,x.k=k:=⟨_,rfl⟩;rw[hk]at q;have hM:dP x=if isKind k=true then bK (aT x) (partsOf k)else 11:=by unfold dP;rw[hk]
 rw[hM];clear hM hk;have aS:=ah hk0;have dZ:=ah hn0;clear hk0 hn0;by_cases hkk:isKind k=true;rotate_left
 ·rw[if_neg hkk];have hp:=KY W0 k (by simpa using hkk);have HP:=ah hp;clear hp hkk h;go_enter Tryz.func64,Tryz.ntmps64;go_wp2_with fail;refine HP.out.mono ?_;rintro e w2 ⟨rfl,hk⟩;have HK:=ah (aS.out.then hk);clear hk;go_wp2;go_ret;exact⟨rfl,HK.out⟩
 rw[if_pos hkk];have hp:=D5 W0 k hkk;have hlet:=rP k;obtain⟨l,hl⟩:∃l,partsOf k=l:=⟨_,rfl⟩;rw[hl]at hp hlet⊢;have hcall:=fun W (hW:Kept aj w W) c (hc:c∈l)=>Sj W x c (h.kept hW) (hlet c hc);obtain⟨r,hr⟩:∃r,bK (aT x) l=r:=⟨_,rfl⟩;rw[hr];have HP:=ah hp;have Bl:=ah hlet;have HC:=ah hcall;have HR:=ah hr;clear hp hlet hcall hr hkk hl h;go_enter Tryz.func64,Tryz.ntmps64;go_wp2_with fail;clear hW0;refine HP.out.mono ?_;rintro e w2 ⟨rfl,hk⟩;have NK:=ah (dZ.out.kept hk (fun z=>z));have gJ:=ah (aS.out.then hk);clear hk q;go_wp2_with fail;go_loopg [] l.length (fun gf wx=>∃i:Nat,i<=l.length/\wx.heap[w2.heap.size]? =some (.stringIter (lets l) i)/\r=bK (aT x) (l.drop i)/\Kept aj w2 wx/\l.length<=i+gf)
 case atStart=>exact⟨0,Nat.zero_le _,World.iter_heap w2 (lets l) 0,HR.out.symm,Kept.iter (Kept.refl _ _) _ _,by omega⟩
 case round=>
  obtain⟨i,hi,hit,hrr,hk,hfu⟩:=hrel;have HK:=ah hk;clear hk;by_cases hil:i<l.length
  ·obtain⟨g',rfl⟩:∃g',gk=g'+1:=⟨gk-1,by omega⟩;obtain⟨c,hc⟩:∃c,l[i]? =some c:=⟨_,lB0 hil⟩;obtain⟨hps,hb,ha⟩:=Ic Bl.out hc;have hnx:∀ty,(Instr.next (.pointer (some ⟨w2.heap.size,0,none⟩)) true ty).run Tryz.prog wr=_:=fun ty=>Lib.run_next_ascii_at wr w2.heap.size (lets l) i ty hit hps ha;rw[hb]at hnx;have hit2:=Lib.iterAt_heap wr w2.heap.size (lets l) i (i+1) hit;have hk2:=Kept.iterAt HK.out (k:=w2.heap.size) (.inr (Nat.le_refl _)) (lets l) (i+1);obtain⟨W,hWd⟩:∃W,wr.iterAt w2.heap.size (lets l) (i+1)=W:=⟨_,rfl⟩;rw[hWd]at hnx hit2 hk2;have hsa:=uG (aT x) hc;rw[hsa]at hrr;have hcall:=HC.out W (gJ.out.then hk2) c (lC0 hc);obtain⟨t,ht⟩:∃t,aT x c=t:=⟨_,rfl⟩;rw[ht]at hcall hrr;have Gz:=ah hcall;have HRR:=ah hrr;have HIT:=ah hit2;have mW:=ah hk2;clear hsa ht hcall hrr hit2 hk2 hWd hb ha hps hit hc;go_wp2_with (refine wpList_load_row rfl 63 (.tmp 1) rfl w.heap.size rfl 63 _ (0,0) _ (NK.out.kept mW.out (fun z=>z)) Tryz.underlying63 rfl (by kernel_rfl) ?_);refine Gz.out.mono ?_;rintro e w5 ⟨rfl,hk0⟩;have dK:=ah (mW.out.then hk0);have abq:=ah ((hk0.block w2.heap.size (Array.getElem?_eq_some_iff.1 HIT.out).1 (fun z=>z)).trans HIT.out);clear hk0;by_cases h0:t=0
   ·subst h0;have hrf:=HRR.out;rw[if_pos rfl]at hrf;have jl:=ah hrf;clear hrf HRR;go_wp2;go_roundg g'
    case measure=>omega
    case rel=>exact⟨i+1,by omega,abq.out,jl.out,dK.out,by omega⟩
   ·have hrf:=HRR.out;rw[if_neg h0]at hrf;have jl:=ah hrf;clear hrf HRR;have h2:(t !=0)=true:=by simpa using h0
    clear h0;go_wp2;go_ret;exact⟨by rw[jl.out];rfl,gJ.out.then dK.out⟩
  ·obtain rfl:i=l.length:=by omega
   have hps:¬l.length<(lets l).size:=by rw[AO];omega
   have hnx:∀ty,(Instr.next (.pointer (some ⟨w2.heap.size,0,none⟩)) true ty).run Tryz.prog wr=_:=fun ty=>Lib.run_next_end_at wr w2.heap.size (lets l) l.length ty hit hps;rw[List.drop_length,bK]at hrr;have HRR:=ah hrr;clear hrr hit hps;go_wp2;go_ret;exact⟨by rw[HRR.out];rfl,gJ.out.then HK.out⟩
end eP
end Go.Proofs.YtgbigpdiacjbgaaGreat
namespace Go.Proofs.YtgbigpdiacjbgaaGreat
open Go.RowKit Go.Shelf
namespace iI
open Vn Ops
abbrev KB:=Nat×TypeId×Array Value
def WS(N:Nat)(w:World)(g:Nat)(bs:List UInt8)(keep:List KB):Prop:=
 N<=w.heap.size/\∃F,oD w g F bs/\(∀k,F k->N<=k)/\∀x∈keep,¬F x.1/\Has w x.1 x.2.1 x.2.2
section
variable{N g:Nat}{w w':World}{bs:List UInt8}{keep:List KB}
theorem WS.alloc(h:WS N w g bs keep)(o:Obj):WS N (w.alloc o) g bs keep:=by obtain⟨h0,F,h1,h2,h3⟩:=h;exact⟨by simp;omega,F,h1.kept ((Kept.refl aj w).alloc o) (wF F),h2,fun x hx=>⟨(h3 x hx).1,(h3 x hx).2.alloc o⟩⟩
theorem WS.add(h:WS N w g bs keep)(t:TypeId)(cs:Array Value):WS N (w.alloc (.cells cs t)) g bs ((w.heap.size,t,cs)::keep):=by
 obtain⟨h0,F,h1,h2,h3⟩:=h;refine⟨by simp;omega,F,h1.kept ((Kept.refl aj w).alloc _) (wF F),h2,fun x hx=> ?_⟩;rcases List.mem_cons.1 hx with rfl|hx
 ·exact⟨fun hF=>by have:=h1.lt _ hF;simp at this,Has.new w t cs⟩
 ·exact⟨(h3 x hx).1,(h3 x hx).2.alloc _⟩
theorem WS.tail{x:KB}(h:WS N w g bs (x::keep)):WS N w g bs keep:=by obtain⟨h0,F,h1,h2,h3⟩:=h;exact⟨h0,F,h1,h2,fun y hy=>h3 y (List.mem_cons_of_mem _ hy)⟩
theorem WS.O8{x y:KB}(h:WS N w g bs (x::y::keep)):WS N w g bs (y::keep):=h.tail
theorem WS.has{x:KB}(h:WS N w g bs keep)(hx:x∈keep):Has w x.1 x.2.1 x.2.2:=by obtain⟨h0,F,h1,h2,h3⟩:=h;exact(h3 x hx).2
theorem WS.kept{G:Nat->Prop}(h:WS N w g bs keep)(hk:Kept aj w w'):WS N w' g bs keep:=by obtain⟨h0,F,h1,h2,h3⟩:=h;exact⟨Nat.le_trans h0 hk.size,F,h1.kept hk (wF F),h2,fun x hx=>⟨(h3 x hx).1,(h3 x hx).2.kept hk (fun y=>y)⟩⟩
def wU(N:Nat)(w:World)(g:Nat)(bs:List UInt8)(keep:List KB)(e:Ending)(w':World):Prop:=e=.returned (.pointer (some ⟨g,0,none⟩))/\WS N w' g bs keep/\Below N w w'
theorem WS.step{f:FuncId}{args:Array Value}{bs':List UInt8}(h:WS N w g bs keep)
  (hc:∀F,oD w g F bs->Calls Tryz.prog f args w (Wrote w g F bs')):Calls Tryz.prog f args w (wU N w g bs' keep):=by
 obtain⟨h0,F,h1,h2,h3⟩:=h;refine(hc F h1).mono ?_;rintro e w' ⟨he,F',g1,g2,g3⟩;refine⟨he,⟨Nat.le_trans h0 g3.size,F',g1,fun k hk=> ?_,fun x hx=>⟨fun hF=> ?_,(h3 x hx).2.kept g3 (h3 x hx).1⟩⟩,g3.below h0 h2⟩
 ·rcases g2 k hk with y|y
  ·exact h2 k y
  ·omega
 ·rcases g2 x.1 hF with y|y
  ·exact(h3 x hx).1 y
  ·have:=(h3 x hx).2.lt;omega
theorem sN(h:WS N w g bs keep)(n:Nat)(hn:n<=9223372036854775807)(hlen:bs.length+9<=140737488355328):
  Calls Tryz.prog 88 #[.pointer (some ⟨g,0,none⟩),.int .i64 n] w (wU N w g (bs++put n) keep):=h.step fun F hF=>JW w g F bs n hn hF hlen
theorem EN(h:WS N w g bs keep)(n:Nat)(hn:n<18446744073709551616)(hlen:bs.length+9<=140737488355328):
  Calls Tryz.prog 132 #[.pointer (some ⟨g,0,none⟩),.int .u64 n] w (wU N w g (bs++put n) keep):=h.step fun F hF=>JX w g F bs n hn hF hlen
theorem uk(h:WS N w g bs keep)(s:ByteArray)(hlen:bs.length+9+s.size<=140737488355328):
  Calls Tryz.prog 131 #[.pointer (some ⟨g,0,none⟩),.string s] w (wU N w g (bs++dA s) keep):=h.step fun F hF=>IE w g F bs s hF hlen
theorem La(h:WS N w g bs keep)(b:Bool)(hlen:bs.length+9<=140737488355328):
  Calls Tryz.prog 171 #[.pointer (some ⟨g,0,none⟩),.bool b] w (wU N w g (bs++sW b) keep):=h.step fun F hF=>IG w g F bs b hF (by omega)
theorem GM(w:World)(keep:List KB)(hk:∀x∈keep,Has w x.1 x.2.1 x.2.2):
  Calls Tryz.prog 87 #[] w fun e w'=>∃g,e=.returned (.pointer (some ⟨g,0,none⟩))/\WS w.heap.size w' g [] keep/\Kept aj w w':=by
 refine(JY w).mono ?_;rintro e w' ⟨he,h1,h2⟩;exact⟨w.heap.size,he,⟨h2.size,_,h1,fun k hk=>by rw[hk];exact Nat.le_refl _,fun x hx=>⟨fun e=>by have:=(hk x hx).lt;omega,(hk x hx).kept h2 (fun y=>y)⟩⟩,h2⟩
theorem D6(h:WS N w g bs keep)(h0:bs≠[]):
  Calls Tryz.prog 90 #[.pointer (some ⟨g,0,none⟩)] w fun e w'=>e=.returned (.tuple #[.string (fE bs),.int .i64 0])/\Below N w w':=by
 obtain⟨hN,F,h1,h2,h3⟩:=h;refine(JV w g F bs h1 h0).mono ?_;rintro e w' ⟨he,hk⟩;exact⟨he,hk.below hN h2⟩
theorem behind{a b:World}(h:Kept aj w a)(hb:Below N a b)(hN:w.heap.size<=N):Kept aj w b:=
 h.trans (G:=fun k=>N<=k) (Kept.of_below hb fun k _ hf=>by omega) fun i hi=> .inr (by omega)

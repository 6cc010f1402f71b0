/- Part 6. -/
import Derived.Test.YtomccaocggplgaaGreatMP04
import Derived.Deep.LoopGhost
set_option linter.unusedSimpArgs false
set_option linter.unusedVariables false
set_option maxHeartbeats 32000000
set_option maxRecDepth 100000
namespace Go.Proofs.YtomccaocggplgaaGreat
open Go.RowKit
namespace gu
open aJ Ops yt Vn
theorem Kept.iterAt{F:Nat->Prop}{a w:World}(h:Kept F a w){k:Nat}(hk:F k\/a.heap.size<=k)(s:ByteArray)(pos:Nat):Kept F a (w.iterAt k s pos):=
 h.trans (G:=fun j=>j=k) ⟨rfl,rfl,rfl,by rw[Lib.iterAt_size];exact Nat.le_refl _,fun i _ hi=>Lib.iterAt_other w k i s pos hi⟩ fun i hi=>by subst hi;exact hk
theorem Kept.iter{F:Nat->Prop}{a w:World}(h:Kept F a w)(s:ByteArray)(pos:Nat):Kept F a (w.iter s pos):=h.alloc _
theorem UK(W:World)(B:Nat)(x:bD)(hB:Has W B 45 (aI x).toArray)(h:jd W x):
  Calls Tryz.prog 161 #[.pointer (some ⟨B,0,none⟩)] W fun e w'=>e=.returned (.int .i64 (fA (fun y=>Ops.chk (oW y)) x.es))/\Kept aj W w':=by
 have q:W.cell? ⟨B,19,none⟩=some (.slice x.eA x.es.length x.ec):=hB.cell 19;have hc:=RE W x.eA x.ec x.es h.e (by have:=h.el;omega) (fun y hy=>(h.eo y hy).1);obtain⟨r,hr⟩:∃r,fA (fun y=>Ops.chk (oW y)) x.es=r:=⟨_,rfl⟩;rw[hr]at hc⊢;have HC:=ah hc;clear hc hr h hB;go_enter Tryz.func161,Tryz.ntmps161;go_wp2_with fail;refine HC.out.mono ?_;rintro e w2 ⟨rfl,hk⟩;have HK:=ah hk;clear hk;go_wp2;go_ret;exact⟨rfl,HK.out⟩
theorem UL(W:World)(B:Nat)(x:bD)(hB:Has W B 45 (aI x).toArray)(h:jd W x):
  Calls Tryz.prog 163 #[.pointer (some ⟨B,0,none⟩)] W fun e w'=>e=.returned (.int .i64 (fA qQ x.ps))/\Kept aj W w':=by
 have q:W.cell? ⟨B,21,none⟩=some (.slice x.pA x.ps.length x.pc):=hB.cell 21;have hc:=Xp W x.pA x.pc x.ps h.p (by have:=h.pl;omega);obtain⟨r,hr⟩:∃r,fA qQ x.ps=r:=⟨_,rfl⟩;rw[hr]at hc⊢;have HC:=ah hc;clear hc hr h hB;go_enter Tryz.func163,Tryz.ntmps163;go_wp2_with fail;refine HC.out.mono ?_;rintro e w2 ⟨rfl,hk⟩;have HK:=ah hk;clear hk;go_wp2;go_ret;exact⟨rfl,HK.out⟩
theorem Xr(w:World)(x:bD)(c:Nat)(hc:isNum c=true):Calls Tryz.prog 90 #[iE x,.int .i32 c] w fun e w'=>e=.returned (.int .i64 (dD x c))/\Kept aj w w':=by
 have hE:dD x c=Hl (sN x c):=by unfold dD;rw[if_pos hc]
 rw[hE];clear hE;obtain⟨W0,hW0⟩:∃W0,w.alloc (.cells (aI x).toArray 45)=W0:=⟨_,rfl⟩;have hk0:Kept aj w W0:=by rw[<-hW0];(repeat'(first|(with_reducible first|exact ak|apply au|apply ay|apply aA|apply aB)|(right;simp;done)))
 have hn0:Has W0 w.heap.size 45 (aI x).toArray:=by rw[<-hW0];exact Has.new _ _ _
 have hnum:=OB W0 w.heap.size c hc;have q:W0.cell? ⟨w.heap.size,numAt c,none⟩=some (.int .i64 (sN x c)):=by have h:c=101\/c=115\/c=114\/c=110\/c=109\/c=112:=of_decide_eq_true hc;rcases h with rfl|rfl|rfl|rfl|rfl|rfl<;>exact hn0.cell _
 obtain⟨n,hn⟩:∃n,sN x c=n:=⟨_,rfl⟩;obtain⟨a,ha⟩:∃a,numAt c=a:=⟨_,rfl⟩;rw[hn,ha]at q;rw[ha]at hnum;rw[hn];have HN:=ah hnum;have bf:=ah hk0;clear hn ha hn0 hc hk0 hnum;unfold Hl;by_cases h1:n<0
 ·rw[if_pos (.inl h1)];go_enter Tryz.func90,Tryz.ntmps90;go_wp2_with fail;refine HN.out.mono ?_;rintro e w2 ⟨rfl,rfl⟩;go_wp2;go_ret;exact⟨rfl,bf.out⟩
 by_cases h2:1073741824<n
 ·rw[if_pos (.inr h2)];go_enter Tryz.func90,Tryz.ntmps90;go_wp2_with fail;refine HN.out.mono ?_;rintro e w2 ⟨rfl,rfl⟩;go_wp2;go_ret;exact⟨rfl,bf.out⟩
 ·rw[if_neg (by omega)];go_enter Tryz.func90,Tryz.ntmps90;go_wp2_with fail;refine HN.out.mono ?_;rintro e w2 ⟨rfl,rfl⟩;go_wp2;go_ret;exact⟨rfl,bf.out⟩
theorem aaY(w:World)(x:bD)(h:jd w x):Calls Tryz.prog 90 #[iE x,.int .i32 ((97:Nat):Int)] w fun e w'=>e=.returned (.int .i64 (dD x 97))/\Kept aj w w':=by
 obtain⟨W0,hW0⟩:∃W0,w.alloc (.cells (aI x).toArray 45)=W0:=⟨_,rfl⟩;have hk0:Kept aj w W0:=by rw[<-hW0];(repeat'(first|(with_reducible first|exact ak|apply au|apply ay|apply aA|apply aB)|(right;simp;done)))
 have hn0:Has W0 w.heap.size 45 (aI x).toArray:=by rw[<-hW0];exact Has.new _ _ _
 have hE:dD x 97=0:=rfl;rw[hE];have hnum:=iV W0 w.heap.size 97 (by decide) (by decide);have HN:=ah hnum;have bf:=ah hk0;clear hk0 hnum hE;clear hn0 h;go_enter Tryz.func90,Tryz.ntmps90;go_wp2_with fail;refine HN.out.mono ?_;rintro e w2 ⟨rfl,rfl⟩;go_wp2;go_ret;exact⟨rfl,bf.out⟩
theorem Xt(w:World)(x:bD)(h:jd w x):Calls Tryz.prog 90 #[iE x,.int .i32 ((108:Nat):Int)] w fun e w'=>e=.returned (.int .i64 (dD x 108))/\Kept aj w w':=by
 obtain⟨W0,hW0⟩:∃W0,w.alloc (.cells (aI x).toArray 45)=W0:=⟨_,rfl⟩;have hk0:Kept aj w W0:=by rw[<-hW0];(repeat'(first|(with_reducible first|exact ak|apply au|apply ay|apply aA|apply aB)|(right;simp;done)))
 have hn0:Has W0 w.heap.size 45 (aI x).toArray:=by rw[<-hW0];exact Has.new _ _ _
 have hE:dD x 108=0:=rfl;rw[hE];have hnum:=iV W0 w.heap.size 108 (by decide) (by decide);have HN:=ah hnum;have bf:=ah hk0;clear hk0 hnum hE;clear hn0 h;go_enter Tryz.func90,Tryz.ntmps90;go_wp2_with fail;refine HN.out.mono ?_;rintro e w2 ⟨rfl,rfl⟩;go_wp2;go_ret;exact⟨rfl,bf.out⟩
theorem Xu(w:World)(x:bD)(h:jd w x):Calls Tryz.prog 90 #[iE x,.int .i32 ((102:Nat):Int)] w fun e w'=>e=.returned (.int .i64 (dD x 102))/\Kept aj w w':=by
 obtain⟨W0,hW0⟩:∃W0,w.alloc (.cells (aI x).toArray 45)=W0:=⟨_,rfl⟩;have hk0:Kept aj w W0:=by rw[<-hW0];(repeat'(first|(with_reducible first|exact ak|apply au|apply ay|apply aA|apply aB)|(right;simp;done)))
 have hn0:Has W0 w.heap.size 45 (aI x).toArray:=by rw[<-hW0];exact Has.new _ _ _
 have hE:dD x 102=0:=rfl;rw[hE];have hnum:=iV W0 w.heap.size 102 (by decide) (by decide);have HN:=ah hnum;have bf:=ah hk0;clear hk0 hnum hE;clear hn0 h;go_enter Tryz.func90,Tryz.ntmps90;go_wp2_with fail;refine HN.out.mono ?_;rintro e w2 ⟨rfl,rfl⟩;go_wp2;go_ret;exact⟨rfl,bf.out⟩
theorem Xv(w:World)(x:bD)(h:jd w x):Calls Tryz.prog 90 #[iE x,.int .i32 ((120:Nat):Int)] w fun e w'=>e=.returned (.int .i64 (dD x 120))/\Kept aj w w':=by
 obtain⟨W0,hW0⟩:∃W0,w.alloc (.cells (aI x).toArray 45)=W0:=⟨_,rfl⟩;have hk0:Kept aj w W0:=by rw[<-hW0];(repeat'(first|(with_reducible first|exact ak|apply au|apply ay|apply aA|apply aB)|(right;simp;done)))
 have hn0:Has W0 w.heap.size 45 (aI x).toArray:=by rw[<-hW0];exact Has.new _ _ _
 have hE:dD x 120=if x.e<0\/21<x.e then 1 else 0:=rfl;rw[hE];have hnum:=iV W0 w.heap.size 120 (by decide) (by decide);have HN:=ah hnum;have bf:=ah hk0;clear hk0 hnum hE;have q:W0.cell? ⟨w.heap.size,10,none⟩=some (.int .i64 x.e):=hn0.cell 10;obtain⟨n,hn⟩:∃n,x.e=n:=⟨_,rfl⟩;rw[hn]at q⊢;clear hn0 h hn;by_cases h1:n<0
 ·rw[if_pos (.inl h1)];go_enter Tryz.func90,Tryz.ntmps90;go_wp2_with fail;refine HN.out.mono ?_;rintro e w2 ⟨rfl,rfl⟩;go_wp2;go_ret;exact⟨rfl,bf.out⟩
 by_cases h2:21<n
 ·rw[if_pos (.inr h2)];go_enter Tryz.func90,Tryz.ntmps90;go_wp2_with fail;refine HN.out.mono ?_;rintro e w2 ⟨rfl,rfl⟩;go_wp2;go_ret;exact⟨rfl,bf.out⟩
 ·rw[if_neg (by omega)];go_enter Tryz.func90,Tryz.ntmps90;go_wp2_with fail;refine HN.out.mono ?_;rintro e w2 ⟨rfl,rfl⟩;go_wp2;go_ret;exact⟨rfl,bf.out⟩
theorem Xw(w:World)(x:bD)(h:jd w x):Calls Tryz.prog 90 #[iE x,.int .i32 ((107:Nat):Int)] w fun e w'=>e=.returned (.int .i64 (dD x 107))/\Kept aj w w':=by
 obtain⟨W0,hW0⟩:∃W0,w.alloc (.cells (aI x).toArray 45)=W0:=⟨_,rfl⟩;have hk0:Kept aj w W0:=by rw[<-hW0];(repeat'(first|(with_reducible first|exact ak|apply au|apply ay|apply aA|apply aB)|(right;simp;done)))
 have hn0:Has W0 w.heap.size 45 (aI x).toArray:=by rw[<-hW0];exact Has.new _ _ _
 have hE:dD x 107=if 8<x.key.size then 3 else 0:=rfl;rw[hE];have hnum:=iV W0 w.heap.size 107 (by decide) (by decide);have HN:=ah hnum;have bf:=ah hk0;clear hk0 hnum hE;have q:W0.cell? ⟨w.heap.size,11,none⟩=some (.string x.key):=hn0.cell 11;obtain⟨s,hs⟩:∃s,x.key=s:=⟨_,rfl⟩;rw[hs]at q⊢;have hl:=wC W0 s 8;obtain⟨u,hu⟩:∃u:Int,(if(8:Int)<(s.size:Int)then (3:Int)else 0)=u:=⟨_,rfl⟩;rw[hu]at hl;have hu2:(if 8<s.size then (3:Int)else 0)=u:=by rw[<-hu];by_cases h8:8<s.size;rw[if_pos h8,if_pos (by omega)];rw[if_neg h8,if_neg (by omega)]
 rw[hu2];have HL:=ah hl;clear hn0 h hs hl hu hu2;go_enter Tryz.func90,Tryz.ntmps90;go_wp2_with fail;refine HN.out.mono ?_;rintro e w2 ⟨rfl,rfl⟩;go_wp2_with fail;refine HL.out.mono ?_;rintro e w3 ⟨rfl,rfl⟩;go_wp2;go_ret;exact⟨rfl,bf.out⟩
theorem Xx(w:World)(x:bD)(h:jd w x):Calls Tryz.prog 90 #[iE x,.int .i32 ((116:Nat):Int)] w fun e w'=>e=.returned (.int .i64 (dD x 116))/\Kept aj w w':=by
 obtain⟨W0,hW0⟩:∃W0,w.alloc (.cells (aI x).toArray 45)=W0:=⟨_,rfl⟩;have hk0:Kept aj w W0:=by rw[<-hW0];(repeat'(first|(with_reducible first|exact ak|apply au|apply ay|apply aA|apply aB)|(right;simp;done)))
 have hn0:Has W0 w.heap.size 45 (aI x).toArray:=by rw[<-hW0];exact Has.new _ _ _
 have hE:dD x 116=if 8<x.to.size then 3 else 0:=rfl;rw[hE];have hnum:=iV W0 w.heap.size 116 (by decide) (by decide);have HN:=ah hnum;have bf:=ah hk0;clear hk0 hnum hE;have q:W0.cell? ⟨w.heap.size,12,none⟩=some (.string x.to):=hn0.cell 12;obtain⟨s,hs⟩:∃s,x.to=s:=⟨_,rfl⟩;rw[hs]at q⊢;have hl:=wC W0 s 8;obtain⟨u,hu⟩:∃u:Int,(if(8:Int)<(s.size:Int)then (3:Int)else 0)=u:=⟨_,rfl⟩;rw[hu]at hl;have hu2:(if 8<s.size then (3:Int)else 0)=u:=by rw[<-hu];by_cases h8:8<s.size;rw[if_pos h8,if_pos (by omega)];rw[if_neg h8,if_neg (by omega)]
 rw[hu2];have HL:=ah hl;clear hn0 h hs hl hu hu2;go_enter Tryz.func90,Tryz.ntmps90;go_wp2_with fail;refine HN.out.mono ?_;rintro e w2 ⟨rfl,rfl⟩;go_wp2_with fail;refine HL.out.mono ?_;rintro e w3 ⟨rfl,rfl⟩;go_wp2;go_ret;exact⟨rfl,bf.out⟩
theorem aaZ(w:World)(x:bD)(h:jd w x):Calls Tryz.prog 90 #[iE x,.int .i32 ((67:Nat):Int)] w fun e w'=>e=.returned (.int .i64 (dD x 67))/\Kept aj w w':=by
 obtain⟨W0,hW0⟩:∃W0,w.alloc (.cells (aI x).toArray 45)=W0:=⟨_,rfl⟩;have hk0:Kept aj w W0:=by rw[<-hW0];(repeat'(first|(with_reducible first|exact ak|apply au|apply ay|apply aA|apply aB)|(right;simp;done)))
 have hn0:Has W0 w.heap.size 45 (aI x).toArray:=by rw[<-hW0];exact Has.new _ _ _
 have hE:dD x 67=aJ.chk x.zL x.ms:=rfl;rw[hE];have hnum:=iV W0 w.heap.size 67 (by decide) (by decide);have HN:=ah hnum;have bf:=ah hk0;clear hk0 hnum hE;have q1:W0.cell? ⟨w.heap.size,13,none⟩=some (.int .i64 x.zL):=hn0.cell 13;have q2:W0.cell? ⟨w.heap.size,14,none⟩=some (.slice x.mA x.ms.length x.mc):=hn0.cell 14;have q3:W0.cell? ⟨w.heap.size,15,none⟩=some (.int .u64 x.BH):=hn0.cell 15;have hx:=h.kept bf.out;have hc:=Mst.rU W0 x.zL x.BH x.mA x.mc x.ms hx.m hx.mc (by have:=hx.ml;omega);obtain⟨u,hu⟩:∃u:Int,aJ.chk x.zL x.ms=u:=⟨_,rfl⟩;rw[hu]at hc⊢;have HC:=ah hc;clear hn0 h hx hc hu;go_enter Tryz.func90,Tryz.ntmps90;go_wp2_with fail;refine HN.out.mono ?_;rintro e w2 ⟨rfl,rfl⟩;go_wp2_with fail;refine HC.out.mono ?_;rintro e w3 ⟨rfl,hk⟩;have HK:=ah (bf.out.then hk);clear hk;go_wp2;go_ret;exact⟨rfl,HK.out⟩
theorem aa0(w:World)(x:bD)(h:jd w x):Calls Tryz.prog 90 #[iE x,.int .i32 ((66:Nat):Int)] w fun e w'=>e=.returned (.int .i64 (dD x 66))/\Kept aj w w':=by
 obtain⟨W0,hW0⟩:∃W0,w.alloc (.cells (aI x).toArray 45)=W0:=⟨_,rfl⟩;have hk0:Kept aj w W0:=by rw[<-hW0];(repeat'(first|(with_reducible first|exact ak|apply au|apply ay|apply aA|apply aB)|(right;simp;done)))
 have hn0:Has W0 w.heap.size 45 (aI x).toArray:=by rw[<-hW0];exact Has.new _ _ _
 have hE:dD x 66=Ops.chk (tX x):=rfl;rw[hE];have hnum:=iV W0 w.heap.size 66 (by decide) (by decide);have HN:=ah hnum;have bf:=ah hk0;clear hk0 hnum hE;have q1:W0.cell? ⟨w.heap.size,16,none⟩=some (.int .i64 x.ji):=hn0.cell 16;have q2:W0.cell? ⟨w.heap.size,17,none⟩=some (.int .i64 x.gK):=hn0.cell 17;have q3:W0.cell? ⟨w.heap.size,18,none⟩=some (.slice x.oA x.ops.length x.oc):=hn0.cell 18;have hx:=h.kept bf.out;have hc:=Ops.CG W0 (tX x) x.oA x.oc hx.o;obtain⟨u,hu⟩:∃u:Int,Ops.chk (tX x)=u:=⟨_,rfl⟩;rw[hu]at hc⊢;dsimp only[Hg,tX]at hc;have HC:=ah hc;clear hn0 h hx hc hu;go_enter Tryz.func90,Tryz.ntmps90;go_wp2_with fail;refine HN.out.mono ?_;rintro e w2 ⟨rfl,rfl⟩;go_wp2_with fail;refine HC.out.mono ?_;rintro e w3 ⟨rfl,hk⟩;have HK:=ah (bf.out.then hk);clear hk;go_wp2;go_ret;exact⟨rfl,HK.out⟩
theorem aa1(w:World)(x:bD)(h:jd w x):Calls Tryz.prog 90 #[iE x,.int .i32 ((83:Nat):Int)] w fun e w'=>e=.returned (.int .i64 (dD x 83))/\Kept aj w w':=by
 obtain⟨W0,hW0⟩:∃W0,w.alloc (.cells (aI x).toArray 45)=W0:=⟨_,rfl⟩;have hk0:Kept aj w W0:=by rw[<-hW0];(repeat'(first|(with_reducible first|exact ak|apply au|apply ay|apply aA|apply aB)|(right;simp;done)))
 have hn0:Has W0 w.heap.size 45 (aI x).toArray:=by rw[<-hW0];exact Has.new _ _ _
 have hE:dD x 83=if 8<x.ss.length then 6 else 0:=rfl;rw[hE];have hnum:=iV W0 w.heap.size 83 (by decide) (by decide);have HN:=ah hnum;have bf:=ah hk0;clear hk0 hnum hE;have q:W0.cell? ⟨w.heap.size,20,none⟩=some (.slice x.sA x.ss.length x.sc):=hn0.cell 20;obtain⟨n,hn⟩:∃n,x.ss.length=n:=⟨_,rfl⟩;rw[hn]at q⊢;have hl:=Hq W0 (n:Int) 8;obtain⟨u,hu⟩:∃u:Int,(if(8:Int)<(n:Int)then (6:Int)else 0)=u:=⟨_,rfl⟩;rw[hu]at hl;have hu2:(if 8<n then (6:Int)else 0)=u:=by rw[<-hu];by_cases h8:8<n;rw[if_pos h8,if_pos (by omega)];rw[if_neg h8,if_neg (by omega)]
 rw[hu2];have HL:=ah hl;clear hn0 h hn hl hu hu2;go_enter Tryz.func90,Tryz.ntmps90;go_wp2_with fail;refine HN.out.mono ?_;rintro e w2 ⟨rfl,rfl⟩;go_wp2_with fail;refine HL.out.mono ?_;rintro e w3 ⟨rfl,rfl⟩;go_wp2;go_ret;exact⟨rfl,bf.out⟩
theorem aa2(w:World)(x:bD)(h:jd w x):Calls Tryz.prog 90 #[iE x,.int .i32 ((69:Nat):Int)] w fun e w'=>e=.returned (.int .i64 (dD x 69))/\Kept aj w w':=by
 obtain⟨W0,hW0⟩:∃W0,w.alloc (.cells (aI x).toArray 45)=W0:=⟨_,rfl⟩;have hk0:Kept aj w W0:=by rw[<-hW0];(repeat'(first|(with_reducible first|exact ak|apply au|apply ay|apply aA|apply aB)|(right;simp;done)))
 have hn0:Has W0 w.heap.size 45 (aI x).toArray:=by rw[<-hW0];exact Has.new _ _ _
 have hE:dD x 69=if 4<x.es.length then 6 else fA (fun y=>Ops.chk (oW y)) x.es:=rfl;rw[hE];have hnum:=iV W0 w.heap.size 69 (by decide) (by decide);have HN:=ah hnum;have bf:=ah hk0;clear hk0 hnum hE;have q:W0.cell? ⟨w.heap.size,19,none⟩=some (.slice x.eA x.es.length x.ec):=hn0.cell 19;have hcl:=UK W0 w.heap.size x hn0 (h.kept bf.out);obtain⟨n,hn⟩:∃n,x.es.length=n:=⟨_,rfl⟩;obtain⟨r,hr⟩:∃r,fA (fun y=>Ops.chk (oW y)) x.es=r:=⟨_,rfl⟩;rw[hr]at hcl⊢;rw[hn]at q⊢;have hl:=Hq W0 (n:Int) 4;have HC:=ah hcl;clear hn0 h hn hr hcl;by_cases h8:4<n
 ·rw[if_pos (by omega)]at hl;rw[if_pos h8];have HL:=ah hl;clear hl h8;go_enter Tryz.func90,Tryz.ntmps90;go_wp2_with fail;refine HN.out.mono ?_;rintro e w2 ⟨rfl,rfl⟩;go_wp2_with fail;refine HL.out.mono ?_;rintro e w3 ⟨rfl,rfl⟩;go_wp2_with fail;refine(Xo _ _ _ (by decide)).mono ?_;rintro e w3 ⟨rfl,rfl⟩;go_wp2;go_ret;exact⟨rfl,bf.out⟩
 ·rw[if_neg (by omega)]at hl;rw[if_neg h8];have HL:=ah hl;clear hl h8;go_enter Tryz.func90,Tryz.ntmps90;go_wp2_with fail;refine HN.out.mono ?_;rintro e w2 ⟨rfl,rfl⟩;go_wp2_with fail;refine HL.out.mono ?_;rintro e w3 ⟨rfl,rfl⟩;go_wp2_with fail;refine(adw _ 161 _ r (fun args W=>Mst.enters Tryz.func161 (by kernel_rfl) rfl args W) HC.out).mono ?_;rintro e w4 ⟨rfl,hk⟩;have HK:=ah (bf.out.then hk);clear hk;go_wp2;go_ret;exact⟨rfl,HK.out⟩
theorem aa3(w:World)(x:bD)(h:jd w x):Calls Tryz.prog 90 #[iE x,.int .i32 ((82:Nat):Int)] w fun e w'=>e=.returned (.int .i64 (dD x 82))/\Kept aj w w':=by
 obtain⟨W0,hW0⟩:∃W0,w.alloc (.cells (aI x).toArray 45)=W0:=⟨_,rfl⟩;have hk0:Kept aj w W0:=by rw[<-hW0];(repeat'(first|(with_reducible first|exact ak|apply au|apply ay|apply aA|apply aB)|(right;simp;done)))
 have hn0:Has W0 w.heap.size 45 (aI x).toArray:=by rw[<-hW0];exact Has.new _ _ _
 have hE:dD x 82=if 32<x.ps.length then 6 else fA qQ x.ps:=rfl;rw[hE];have hnum:=iV W0 w.heap.size 82 (by decide) (by decide);have HN:=ah hnum;have bf:=ah hk0;clear hk0 hnum hE;have q:W0.cell? ⟨w.heap.size,21,none⟩=some (.slice x.pA x.ps.length x.pc):=hn0.cell 21;have hcl:=UL W0 w.heap.size x hn0 (h.kept bf.out);obtain⟨n,hn⟩:∃n,x.ps.length=n:=⟨_,rfl⟩;obtain⟨r,hr⟩:∃r,fA qQ x.ps=r:=⟨_,rfl⟩;rw[hr]at hcl⊢;rw[hn]at q⊢;have hl:=Hq W0 (n:Int) 32;have HC:=ah hcl;clear hn0 h hn hr hcl;by_cases h8:32<n
 ·rw[if_pos (by omega)]at hl;rw[if_pos h8];have HL:=ah hl;clear hl h8;go_enter Tryz.func90,Tryz.ntmps90;go_wp2_with fail;refine HN.out.mono ?_;rintro e w2 ⟨rfl,rfl⟩;go_wp2_with fail;refine HL.out.mono ?_;rintro e w3 ⟨rfl,rfl⟩;go_wp2_with fail;refine(Xo _ _ _ (by decide)).mono ?_;rintro e w3 ⟨rfl,rfl⟩;go_wp2;go_ret;exact⟨rfl,bf.out⟩
 ·rw[if_neg (by omega)]at hl;rw[if_neg h8];have HL:=ah hl;clear hl h8;go_enter Tryz.func90,Tryz.ntmps90;go_wp2_with fail;refine HN.out.mono ?_;rintro e w2 ⟨rfl,rfl⟩;go_wp2_with fail;refine HL.out.mono ?_;rintro e w3 ⟨rfl,rfl⟩;go_wp2_with fail;refine(adw _ 163 _ r (fun args W=>Mst.enters Tryz.func163 (by kernel_rfl) rfl args W) HC.out).mono ?_;rintro e w4 ⟨rfl,hk⟩;have HK:=ah (bf.out.then hk);clear hk;go_wp2;go_ret;exact⟨rfl,HK.out⟩
theorem Xy(w:World)(x:bD)(c:Nat)(h:jd w x)(hl:c∈letters):Calls Tryz.prog 90 #[iE x,.int .i32 c] w fun e w'=>e=.returned (.int .i64 (dD x c))/\Kept aj w w':=by
 by_cases hc:isNum c=true
 ·exact Xr w x c hc
 ·have h2:¬(c=101\/c=115\/c=114\/c=110\/c=109\/c=112):=fun z=>hc (decide_eq_true z);have h1:c=67\/c=97\/c=102\/c=108\/c=69\/c=83\/c=66\/c=120\/c=107\/c=116\/c=82:=by unfold letters at hl;simp only[List.mem_cons,List.not_mem_nil,or_false]at hl;omega
  rcases h1 with rfl|rfl|rfl|rfl|rfl|rfl|rfl|rfl|rfl|rfl|rfl
  ·exact aaZ w x h
  ·exact aaY w x h
  ·exact Xu w x h
  ·exact Xt w x h
  ·exact aa2 w x h
  ·exact aa1 w x h
  ·exact aa0 w x h
  ·exact Xv w x h
  ·exact Xw w x h
  ·exact Xx w x h
  ·exact aa3 w x h
theorem Ei(l:List Nat):(lets l).size=l.length:=by unfold lets oK;rw[<-bP,jq,List.length_map]
theorem Tt{l:List Nat}(hl:∀c∈l,c∈letters){i c:Nat}(h:l[i]? =some c):∃hi:i<(lets l).size,((lets l)[i]'hi).toNat=c/\((lets l)[i]'hi).toNat<128:=by
 obtain⟨hi,he⟩:=lD0.1 h;have hi2:i<(lets l).size:=by rw[Ei];exact hi
 have hc:c<128:=by have:=hl c (he▸List.getElem_mem hi);unfold letters at this;simp only[List.mem_cons,List.not_mem_nil,or_false]at this;omega
 have e:((lets l)[i]'hi2).toNat=c:=by
  have e1:(lets l)[i]'hi2=UInt8.ofNat c:=by show(lets l).data[i]'_=_;have:(lets l).data=(oK l).toArray:=rfl;simp only[this,List.getElem_toArray,oK,List.getElem_map,he]
  rw[e1];show c%256=c;omega
 exact⟨hi2,e,by rw[e];exact hc⟩
theorem IX(w:World)(x:bD)(h:jd w x):Calls Tryz.prog 40 #[iE x] w fun e w'=>e=.returned (.int .i64 (ou x))/\Kept aj w w':=by
 obtain⟨W0,hW0⟩:∃W0,w.alloc (.cells (aI x).toArray 45)=W0:=⟨_,rfl⟩;have hk0:Kept aj w W0:=by rw[<-hW0];(repeat'(first|(with_reducible first|exact ak|apply au|apply ay|apply aA|apply aB)|(right;simp;done)))
 have hn0:Has W0 w.heap.size 45 (aI x).toArray:=by rw[<-hW0];exact Has.new _ _ _
 have q:W0.cell? ⟨w.heap.size,0,none⟩=some (.int .i64 x.k):=hn0.cell 0;obtain⟨k,hk⟩:∃k,x.k=k:=⟨_,rfl⟩;rw[hk]at q;have hM:ou x=if isKind k=true then fA (dD x) (partsOf k)else 11:=by unfold ou;rw[hk]
 rw[hM];clear hM hk;have bf:=ah hk0;have dW:=ah hn0;clear hk0 hn0;by_cases hkk:isKind k=true;rotate_left
 ·rw[if_neg hkk];have hp:=aaX W0 k (by simpa using hkk);have HP:=ah hp;clear hp hkk h;go_enter Tryz.func40,Tryz.ntmps40;go_wp2_with fail;refine HP.out.mono ?_;rintro e w2 ⟨rfl,hk⟩;have HK:=ah (bf.out.then hk);clear hk;go_wp2;go_ret;exact⟨rfl,HK.out⟩
 rw[if_pos hkk];have hp:=Lp W0 k hkk;have hlet:=DL k;obtain⟨l,hl⟩:∃l,partsOf k=l:=⟨_,rfl⟩;rw[hl]at hp hlet⊢;have hcall:=fun W (hW:Kept aj w W) c (hc:c∈l)=>Xy W x c (h.kept hW) (hlet c hc);obtain⟨r,hr⟩:∃r,fA (dD x) l=r:=⟨_,rfl⟩;rw[hr];have HP:=ah hp;have UM:=ah hlet;have HC:=ah hcall;have HR:=ah hr;clear hp hlet hcall hr hkk hl h;go_enter Tryz.func40,Tryz.ntmps40;go_wp2_with fail;clear hW0;refine HP.out.mono ?_;rintro e w2 ⟨rfl,hk⟩;have dV:=ah (dW.out.kept hk (fun z=>z));have aV:=ah (bf.out.then hk);clear hk q;go_wp2_with fail;go_loopg [] l.length (fun gf wx=>∃i:Nat,i<=l.length/\wx.heap[w2.heap.size]? =some (.stringIter (lets l) i)/\r=fA (dD x) (l.drop i)/\Kept aj w2 wx/\l.length<=i+gf)
 case atStart=>exact⟨0,Nat.zero_le _,World.iter_heap w2 (lets l) 0,HR.out.symm,Kept.iter (Kept.refl _ _) _ _,by omega⟩
 case round=>
  obtain⟨i,hi,hit,hrr,hk,hfu⟩:=hrel;have HK:=ah hk;clear hk;by_cases hil:i<l.length
  ·obtain⟨g',rfl⟩:∃g',gk=g'+1:=⟨gk-1,by omega⟩;obtain⟨c,hc⟩:∃c,l[i]? =some c:=⟨_,lB0 hil⟩;obtain⟨hps,hb,ha⟩:=Tt UM.out hc;have hnx:∀ty,(Instr.next (.pointer (some ⟨w2.heap.size,0,none⟩)) true ty).run Tryz.prog wr=_:=fun ty=>Lib.run_next_ascii_at wr w2.heap.size (lets l) i ty hit hps ha;rw[hb]at hnx;have hit2:=Lib.iterAt_heap wr w2.heap.size (lets l) i (i+1) hit;have hk2:=Kept.iterAt HK.out (k:=w2.heap.size) (.inr (Nat.le_refl _)) (lets l) (i+1);obtain⟨W,hWd⟩:∃W,wr.iterAt w2.heap.size (lets l) (i+1)=W:=⟨_,rfl⟩;rw[hWd]at hnx hit2 hk2;have hsa:=CO (dD x) hc;rw[hsa]at hrr;have hcall:=HC.out W (aV.out.then hk2) c (lC0 hc);obtain⟨t,ht⟩:∃t,dD x c=t:=⟨_,rfl⟩;rw[ht]at hcall hrr;have DR:=ah hcall;have HRR:=ah hrr;have HIT:=ah hit2;have oq:=ah hk2;clear hsa ht hcall hrr hit2 hk2 hWd hb ha hps hit hc;go_wp2_with (refine wpList_load_row rfl 45 (.tmp 1) rfl w.heap.size rfl 45 _ (0,0) _ (dV.out.kept oq.out (fun z=>z)) Tryz.underlying45 rfl (by kernel_rfl) ?_);refine DR.out.mono ?_;rintro e w5 ⟨rfl,hk0⟩;have dB:=ah (oq.out.then hk0);have ahv:=ah ((hk0.block w2.heap.size (Array.getElem?_eq_some_iff.1 HIT.out).1 (fun z=>z)).trans HIT.out);clear hk0;by_cases h0:t=0
   ·subst h0;have hrf:=HRR.out;rw[if_pos rfl]at hrf;have nP:=ah hrf;clear hrf HRR;go_wp2;go_roundg g'
    case measure=>omega
    case rel=>exact⟨i+1,by omega,ahv.out,nP.out,dB.out,by omega⟩
   ·have hrf:=HRR.out;rw[if_neg h0]at hrf;have nP:=ah hrf;clear hrf HRR;have h2:(t !=0)=true:=by simpa using h0
    clear h0;go_wp2;go_ret;exact⟨by rw[nP.out];rfl,aV.out.then dB.out⟩
  ·obtain rfl:i=l.length:=by omega
   have hps:¬l.length<(lets l).size:=by rw[Ei];omega
   have hnx:∀ty,(Instr.next (.pointer (some ⟨w2.heap.size,0,none⟩)) true ty).run Tryz.prog wr=_:=fun ty=>Lib.run_next_end_at wr w2.heap.size (lets l) l.length ty hit hps;rw[List.drop_length,fA]at hrr;have HRR:=ah hrr;clear hrr hit hps;go_wp2;go_ret;exact⟨by rw[HRR.out];rfl,aV.out.then HK.out⟩
end gu
end Go.Proofs.YtomccaocggplgaaGreat
namespace Go.Proofs.YtomccaocggplgaaGreat
open Go.RowKit Go.Shelf
namespace nM
open Vn Ops
abbrev KB:=Nat×TypeId×Array Value
def WS(N:Nat)(w:World)(g:Nat)(bs:List UInt8)(keep:List KB):Prop:=
 N<=w.heap.size/\∃F,nN w g F bs/\(∀k,F k->N<=k)/\∀x∈keep,¬F x.1/\Has w x.1 x.2.1 x.2.2
section
variable{N g:Nat}{w w':World}{bs:List UInt8}{keep:List KB}
theorem WS.alloc(h:WS N w g bs keep)(o:Obj):WS N (w.alloc o) g bs keep:=by obtain⟨h0,F,h1,h2,h3⟩:=h;exact⟨by simp;omega,F,h1.kept ((Kept.refl aj w).alloc o) (uQ F),h2,fun x hx=>⟨(h3 x hx).1,(h3 x hx).2.alloc o⟩⟩
theorem WS.add(h:WS N w g bs keep)(t:TypeId)(cs:Array Value):WS N (w.alloc (.cells cs t)) g bs ((w.heap.size,t,cs)::keep):=by
 obtain⟨h0,F,h1,h2,h3⟩:=h;refine⟨by simp;omega,F,h1.kept ((Kept.refl aj w).alloc _) (uQ F),h2,fun x hx=> ?_⟩;rcases List.mem_cons.1 hx with rfl|hx
 ·exact⟨fun hF=>by have:=h1.lt _ hF;simp at this,Has.new w t cs⟩
 ·exact⟨(h3 x hx).1,(h3 x hx).2.alloc _⟩
theorem WS.tail{x:KB}(h:WS N w g bs (x::keep)):WS N w g bs keep:=by obtain⟨h0,F,h1,h2,h3⟩:=h;exact⟨h0,F,h1,h2,fun y hy=>h3 y (List.mem_cons_of_mem _ hy)⟩
theorem WS.UN{x y:KB}(h:WS N w g bs (x::y::keep)):WS N w g bs (y::keep):=h.tail
theorem WS.has{x:KB}(h:WS N w g bs keep)(hx:x∈keep):Has w x.1 x.2.1 x.2.2:=by obtain⟨h0,F,h1,h2,h3⟩:=h;exact(h3 x hx).2
theorem WS.kept{G:Nat->Prop}(h:WS N w g bs keep)(hk:Kept aj w w'):WS N w' g bs keep:=by obtain⟨h0,F,h1,h2,h3⟩:=h;exact⟨Nat.le_trans h0 hk.size,F,h1.kept hk (uQ F),h2,fun x hx=>⟨(h3 x hx).1,(h3 x hx).2.kept hk (fun y=>y)⟩⟩
def uU(N:Nat)(w:World)(g:Nat)(bs:List UInt8)(keep:List KB)(e:Ending)(w':World):Prop:=e=.returned (.pointer (some ⟨g,0,none⟩))/\WS N w' g bs keep/\Below N w w'
theorem WS.step{f:FuncId}{args:Array Value}{bs':List UInt8}(h:WS N w g bs keep)
  (hc:∀F,nN w g F bs->Calls Tryz.prog f args w (Wrote w g F bs')):Calls Tryz.prog f args w (uU N w g bs' keep):=by
 obtain⟨h0,F,h1,h2,h3⟩:=h;refine(hc F h1).mono ?_;rintro e w' ⟨he,F',g1,g2,g3⟩;refine⟨he,⟨Nat.le_trans h0 g3.size,F',g1,fun k hk=> ?_,fun x hx=>⟨fun hF=> ?_,(h3 x hx).2.kept g3 (h3 x hx).1⟩⟩,g3.below h0 h2⟩
 ·rcases g2 k hk with y|y
  ·exact h2 k y
  ·omega
 ·rcases g2 x.1 hF with y|y
  ·exact(h3 x hx).1 y
  ·have:=(h3 x hx).2.lt;omega
theorem iI(h:WS N w g bs keep)(n:Nat)(hn:n<=9223372036854775807)(hlen:bs.length+9<=140737488355328):
  Calls Tryz.prog 113 #[.pointer (some ⟨g,0,none⟩),.int .i64 n] w (uU N w g (bs++put n) keep):=h.step fun F hF=>Oi w g F bs n hn hF hlen
theorem yD(h:WS N w g bs keep)(n:Nat)(hn:n<18446744073709551616)(hlen:bs.length+9<=140737488355328):
  Calls Tryz.prog 117 #[.pointer (some ⟨g,0,none⟩),.int .u64 n] w (uU N w g (bs++put n) keep):=h.step fun F hF=>Oj w g F bs n hn hF hlen
theorem pJ(h:WS N w g bs keep)(s:ByteArray)(hlen:bs.length+9+s.size<=140737488355328):
  Calls Tryz.prog 115 #[.pointer (some ⟨g,0,none⟩),.string s] w (uU N w g (bs++dR s) keep):=h.step fun F hF=>Lh w g F bs s hF hlen
theorem OC(h:WS N w g bs keep)(b:Bool)(hlen:bs.length+9<=140737488355328):
  Calls Tryz.prog 237 #[.pointer (some ⟨g,0,none⟩),.bool b] w (uU N w g (bs++AO b) keep):=h.step fun F hF=>Lj w g F bs b hF (by omega)
theorem rV(w:World)(keep:List KB)(hk:∀x∈keep,Has w x.1 x.2.1 x.2.2):
  Calls Tryz.prog 112 #[] w fun e w'=>∃g,e=.returned (.pointer (some ⟨g,0,none⟩))/\WS w.heap.size w' g [] keep/\Kept aj w w':=by
 refine(CB w).mono ?_;rintro e w' ⟨he,h1,h2⟩;exact⟨w.heap.size,he,⟨h2.size,_,h1,fun k hk=>by rw[hk];exact Nat.le_refl _,fun x hx=>⟨fun e=>by have:=(hk x hx).lt;omega,(hk x hx).kept h2 (fun y=>y)⟩⟩,h2⟩
theorem pK(h:WS N w g bs keep)(h0:bs≠[]):
  Calls Tryz.prog 118 #[.pointer (some ⟨g,0,none⟩)] w fun e w'=>e=.returned (.tuple #[.string (bI bs),.int .i64 0])/\Below N w w':=by
 obtain⟨hN,F,h1,h2,h3⟩:=h;refine(yT w g F bs h1 h0).mono ?_;rintro e w' ⟨he,hk⟩;exact⟨he,hk.below hN h2⟩
theorem behind{a b:World}(h:Kept aj w a)(hb:Below N a b)(hN:w.heap.size<=N):Kept aj w b:=
 h.trans (G:=fun k=>N<=k) (Kept.of_below hb fun k _ hf=>by omega) fun i hi=> .inr (by omega)
end
end nM
namespace Ops
open Vn nM
def yX(b:Batch):ByteArray:=if chk b=0 then bI (Ec b)else emp
theorem OD(w:World)(b:Batch)(A:Option Addr)(c:Nat)(hs:Src w 3 A b.ops.length (cells b.ops)):
  Calls Tryz.prog 193 #[Hg b A c] w fun e w'=>e=.returned (.tuple #[.string (yX b),.int .i64 (chk b)])/\Kept aj w w':=by
 have fC:=fun W (hW:Kept aj w W)=>CG W b A c (hs.kept hW (fun _ _ x=>x));have yY:=ah fC;clear fC;have HS:=ah hs;clear hs;by_cases hz:chk b=0;rotate_left
 ·have hr:yX b=emp:=by unfold yX;rw[if_neg hz]
  rw[hr];obtain⟨x,hx⟩:∃x,chk b=x:=⟨_,rfl⟩;rw[hx]at hz yY⊢;have hz2:(x !=0)=true:=by simpa using hz
  clear hx hr hz;go_enter Tryz.func193,Tryz.ntmps193;go_wp2_with fail;refine(yY.out _ (by(repeat'(first|(with_reducible first|exact ak|apply au|apply ay|apply aA|apply aB)|(right;simp;done))))).mono ?_;rintro e w2 ⟨rfl,hk⟩;have hk2:=Kept.then (a:=w) (by(repeat'(first|(with_reducible first|exact ak|apply au|apply ay|apply aA|apply aB)|(right;simp;done)))) hk;have aV:=ah hk2;clear hk2 hk;go_wp2;go_ret2;exact⟨rfl,aV.out⟩
 have hr:yX b=bI (Ec b):=by unfold yX;rw[if_pos hz]
 rw[hr,hz];rw[hz]at yY;obtain⟨k1,k2,k3,k4,k5,k6⟩:=Xc hz;have hok:=Tm k6;obtain⟨cl,req,l⟩:=b;dsimp only at k1 k2 k3 k4 k5 k6 hok HS;obtain⟨cn,rfl⟩:∃cn:Nat,cl=cn:=⟨cl.toNat,by omega⟩;obtain⟨rn,rfl⟩:∃rn:Nat,req=rn:=⟨req.toNat,by omega⟩;have hpb:Ec ⟨cn,rn,l⟩=put cn++put rn++put l.length++l.flatMap vX:=rfl;rw[hpb];have Ej:=ah hok;clear hok k6 hz hr hpb;have HB0:=ah (Has.new w 40 #[.int .i64 cn,.int .i64 rn,.slice A l.length c]);go_enter Tryz.func193,Tryz.ntmps193;go_wp2_with fail;refine(yY.out _ (by(repeat'(first|(with_reducible first|exact ak|apply au|apply ay|apply aA|apply aB)|(right;simp;done))))).mono ?_;rintro e w2 ⟨rfl,hk⟩;have hb2:=Has.kept (F:=aj) HB0.out hk (fun x=>x);have hk2:=Kept.then (a:=w) (by(repeat'(first|(with_reducible first|exact ak|apply au|apply ay|apply aA|apply aB)|(right;simp;done)))) hk;have c0:w2.cell? ⟨w.heap.size,0,none⟩=some (.int .i64 cn):=hb2.cell 0;have c1:w2.cell? ⟨w.heap.size,1,none⟩=some (.int .i64 rn):=hb2.cell 1;have c2:w2.cell? ⟨w.heap.size,2,none⟩=some (.slice A l.length c):=hb2.cell 2;have HB2:=ah hb2;clear hb2;have aV:=ah hk2;clear hk2 hk;have hN:∀n,(w2.drewN n).heap.size=w2.heap.size:=fun n=>rfl
 have hnew:∀W,Has W w.heap.size 40 #[.int .i64 cn,.int .i64 rn,.slice A l.length c]->Calls Tryz.prog 112 #[] W fun e w'=>∃g,e=.returned (.pointer (some ⟨g,0,none⟩))/\WS W.heap.size w' g [] [(w.heap.size,40,#[.int .i64 cn,.int .i64 rn,.slice A l.length c])]/\Kept aj W w':=
  fun W hW=>rV W _ (fun x hx=>by simp at hx;subst hx;exact hW)
 have gI:=ah hnew;clear hnew;have hss:∀W,Has W w.heap.size 40 #[.int .i64 cn,.int .i64 rn,.slice A l.length c]->(W.cell? ⟨w.heap.size,0,none⟩=some (.int .i64 cn)/\W.cell? ⟨w.heap.size,1,none⟩=some (.int .i64 rn)/\W.cell? ⟨w.heap.size,2,none⟩=some (.slice A l.length c)):=fun W hW=>⟨hW.cell 0,hW.cell 1,hW.cell 2⟩;have uq:=ah hss;clear hss;have p1:=nD (n:=cn) (by omega);have p2:=nD (n:=rn) (by omega);have p3:=nD (n:=l.length) (by omega);have HP:=ah (And.intro p1 (And.intro p2 p3));clear p1 p2 p3;have HQ:=ah (And.intro k1 (And.intro k2 (And.intro k3 (And.intro k4 k5))));clear k1 k2 k3 k4;go_wp2_with fail
 go_region_held3 (fun W=>W.cell? ⟨w.heap.size,0,none⟩=some (.int .i64 cn)/\W.cell? ⟨w.heap.size,1,none⟩=some (.int .i64 rn)/\W.cell? ⟨w.heap.size,2,none⟩=some (.slice A l.length c)) (first|with_reducible exact q6|with_reducible exact q5|with_reducible exact q4|with_reducible exact q3|with_reducible exact⟨c0,c1,c2⟩|(simp[go_sem,c0,c1,c2];done))
  (first
   |(go_at_call 112;refine(gI.out _ (by exact HB2.out)).mono ?_;rintro e w3 ⟨g,rfl,hw3,Em⟩;have q3:=uq.out _ (hw3.has (List.mem_singleton.2 rfl));have HW3:=ah hw3;have En:=ah Em;clear hw3 Em)
   |(have hx:=eF;clear hx;go_at_call 113;refine(iI (by exact eF.out) l.length (by have:=HQ.out;omega) (by have:=HP.out;simp;omega)).mono ?_;rintro e w6 ⟨rfl,hw6,hb6⟩;have q6:=uq.out _ (hw6.has (List.mem_singleton.2 rfl));have yZ:=ah hw6;have Eo:=ah hb6;clear hw6 hb6)
   |(have hx:=kW;clear hx;go_at_call 113;refine(iI (by exact kW.out) rn (by have:=HQ.out;omega) (by have:=HP.out;simp;omega)).mono ?_;rintro e w5 ⟨rfl,hw5,hb5⟩;have q5:=uq.out _ (hw5.has (List.mem_singleton.2 rfl));have eF:=ah hw5;have jv:=ah hb5;clear hw5 hb5)
   |(have hx:=HW3;clear hx;go_at_call 113;refine(iI (by exact HW3.out) cn (by have:=HQ.out;omega) (by simp)).mono ?_;rintro e w4 ⟨rfl,hw4,hb4⟩;have q4:=uq.out _ (hw4.has (List.mem_singleton.2 rfl));have kW:=ah hw4;have HB4:=ah hb4;clear hw4 hb4))
 have hk3:Kept aj w w3:=Kept.then (by(repeat'(first|(with_reducible first|exact ak|apply au|apply ay|apply aA|apply aB)|(with_reducible exact aV.out)|(right;simp;done)))) En.out;have hle:w.heap.size<=w2.heap.size:=aV.out.size;have hk6:Kept aj w w6:=behind (behind (behind hk3 HB4.out hle) jv.out hle) Eo.out hle;have hw6:=yZ.out;simp only[List.nil_append]at hw6;clear q3 q4 q5 HW3 kW eF yZ HB4 jv Eo aV En c0 c1 c2 hk3 gI yY HB0 HB2;obtain⟨hdr,tY⟩:∃hdr,put cn++put rn++put l.length=hdr:=⟨_,rfl⟩;rw[tY]at hw6;have hdl:hdr.length<=27:=by rw[<-tY];have:=HP.out;simp only[lA0];omega
 have hdp:hdr≠[]:=by rw[<-tY];have h1:=put_pos cn;intro e;have:=congrArg List.length e;simp only[lA0,List.length_nil]at this;omega
 have Ep:=ah (And.intro tY (And.intro hdl hdp));clear tY hdl hdp HP;have yZ:=ah hw6;clear hw6;have kQ:=ah hk6;clear hk6;obtain⟨u0,u1,u2⟩:=q6;go_wp2;go_loopw [27] (fun v27 wr=>∃i:Nat,i<=l.length/\v27=.int .i64 i/\WS w2.heap.size wr g (hdr++(l.take i).flatMap vX) [(w.heap.size,40,#[.int .i64 cn,.int .i64 rn,.slice A l.length c])]/\Kept aj w wr) (fun v27 _=>l.length-(intOf v27).toNat)
 case atStart=>exact⟨0,Nat.zero_le _,rfl,by simpa using yZ.out,kQ.out⟩
 case round=>
  obtain⟨i,hi,rfl,hws,hk⟩:=hrel;have HK:=ah hk;clear hk;have hcs:=uq.out _ (hws.has (List.mem_singleton.2 rfl));obtain⟨b0,b1,b2⟩:=hcs;by_cases hil:i<l.length
  ·obtain⟨o,ho⟩:∃o,l[i]? =some o:=⟨_,lB0 hil⟩;have hoi:l[i]=o:=by rw[lB0 hil]at ho;exact Option.some.inj ho
   obtain⟨ad,rfl,had,e0,e1,e2⟩:=Ol (HS.out.kept HK.out (fun _ _ x=>x)) (by omega) i o ho;have iP:=qY vX l i hil;rw[hoi]at iP;have hOK:∀x∈l.take (i+1),(vX x).length<=19:=fun x hx=>Oe (Ej.out x (List.mem_of_mem_take hx)).2.1 (Ej.out x (List.mem_of_mem_take hx)).2.2.1;have hfl:=Og _ hOK;rw[iP,lA0]at hfl;have hob:=Ej.out o (by rw[<-hoi];exact List.getElem_mem hil);have hmin:(l.take (i+1)).length<=4:=by rw[List.length_take];omega
   have pX:(hdr++(l.take i).flatMap vX).length<=200:=by rw[lA0];have:=Ep.out.2.1;omega
   obtain⟨cur,hcur⟩:∃cur,hdr++(l.take i).flatMap vX=cur:=⟨_,rfl⟩;rw[hcur]at hws pX;have hnext:hdr++(l.take (i+1)).flatMap vX=((cur++dR o.key)++AO o.del)++dR o.val:=by rw[iP,<-List.append_assoc,hcur];unfold vX;simp only[List.append_assoc]
   have pM:=ah hnext;clear hnext iP hfl hOK hcur hmin ho hoi;have jP:=ah pX;clear pX;have Xz:=ah hob;clear hob;have pt1:(dR o.key).length<=17:=by have h1:=nD (n:=o.key.size) (by have:=Xz.out;omega);unfold dR;rw[lA0,bP];have:=Xz.out;omega
   have HPT:=ah pt1;clear pt1;have hw0:=hws.add 298 #[.string o.key,.string o.val,.bool o.del];have HW0:=ah hw0;clear hw0 hws
   have hos:∀W bs,WS w2.heap.size W g bs [(wr.heap.size,298,#[.string o.key,.string o.val,.bool o.del]),(w.heap.size,40,#[.int .i64 cn,.int .i64 rn,.slice (some ad) l.length c])]->(W.cell? ⟨wr.heap.size,0,none⟩=some (.string o.key)/\W.cell? ⟨wr.heap.size,1,none⟩=some (.string o.val)/\W.cell? ⟨wr.heap.size,2,none⟩=some (.bool o.del)):=
    fun W bs hW=>⟨(hW.has (List.mem_cons_self ..)).cell 0,(hW.has (List.mem_cons_self ..)).cell 1,(hW.has (List.mem_cons_self ..)).cell 2⟩
   have DT:=ah hos;clear hos;have r0:=DT.out _ _ HW0.out;go_wp2_with fail
   go_region_held3 (fun W=>W.cell? ⟨wr.heap.size,0,none⟩=some (.string o.key)/\W.cell? ⟨wr.heap.size,1,none⟩=some (.string o.val)/\W.cell? ⟨wr.heap.size,2,none⟩=some (.bool o.del)) (first|with_reducible exact r3|with_reducible exact r2|with_reducible exact r1|with_reducible exact r0|(simp[go_sem,r0];done))
    (first
     |(have hx:=sH;clear hx;go_at_call 115;refine(pJ (by exact sH.out) o.val (by have:=jP.out;have:=Xz.out;have:=HPT.out;simp[AO];omega)).mono ?_;rintro e w5 ⟨rfl,hv3,hd3⟩;have r3:=DT.out _ _ hv3;have Lr:=ah hv3;have HD3:=ah hd3;clear hv3 hd3)
     |(have hx:=ru;clear hx;go_at_call 237;refine(OC (by exact ru.out) o.del (by have:=jP.out;have:=Xz.out;have:=HPT.out;simp;omega)).mono ?_;rintro e w4 ⟨rfl,hv2,hd2⟩;have r2:=DT.out _ _ hv2;have sH:=ah hv2;have HD2:=ah hd2;clear hv2 hd2)
     |(go_at_call 115;refine(pJ (by exact HW0.out) o.key (by have:=jP.out;have:=Xz.out;omega)).mono ?_;rintro e w3 ⟨rfl,hv1,hd1⟩;have r1:=DT.out _ _ hv1;have ru:=ah hv1;have HD1:=ah hd1;clear hv1 hd1))
   have hkk:=behind (behind (behind (w:=w) (by(repeat'(first|(with_reducible first|exact ak|apply au|apply ay|apply aA|apply aB)|(with_reducible exact HK.out)|(right;simp;done)))) HD1.out hle) HD2.out hle) HD3.out hle;have HKK:=ah hkk;clear hkk HD1 HD2 HD3;have hv:=Lr.out.UN;rw[<-pM.out]at hv;have HV:=ah hv;clear hv;go_wp2;go_roundw
   case rel=>exact⟨i+1,by omega,by go_num,HV.out,HKK.out⟩
   case measure=>simp[intOf];omega
  ·obtain rfl:i=l.length:=by omega
   rw[List.take_length]at hws;have uV:=ah hws;clear hws;go_wp2_with fail;refine(pK uV.out (by have:=Ep.out.2.2;simp;intro h;exact absurd h this)).mono ?_;rintro e w5 ⟨rfl,hb⟩;have hkk:=behind HK.out hb hle;have HKK:=ah hkk;clear hkk hb;go_wp2;go_ret2;exact⟨by rw[<-Ep.out.1];rfl,HKK.out⟩

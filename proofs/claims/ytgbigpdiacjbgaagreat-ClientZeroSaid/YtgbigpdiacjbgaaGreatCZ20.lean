/- Part 21. -/
import Derived.Test.YtgbigpdiacjbgaaGreatCZ19
set_option linter.unusedSimpArgs false
set_option linter.unusedVariables false
set_option maxHeartbeats 32000000
set_option maxRecDepth 100000
namespace Go.Proofs.YtgbigpdiacjbgaaGreat
open Go.RowKit Go.Shelf
namespace bQ
open aJ Ops dG Vn qj
theorem sJ{x:aH}(h:fA x=0):isKind x.k=true/\∀c∈partsOf x.k,aG x c=0:=by
 unfold fA at h;by_cases hk:isKind x.k=true
 ·rw[if_pos hk]at h;exact⟨hk,jh h⟩
 ·rw[if_neg hk]at h;cases h
theorem yJ(w:World)(x:aH)(h:dM w x):Calls Tryz.prog 53 #[bn x] w fun e w'=>e=.returned (.tuple #[.string (iM x),.int .i64 (fA x)])/\Kept aj w w':=by
 obtain⟨W0,hW0⟩:∃W0,w.alloc (.cells (au x).toArray 63)=W0:=⟨_,rfl⟩;have hk0:Kept aj w W0:=by rw[<-hW0];(repeat'(first|(with_reducible first|exact ay|apply aA|apply aB|apply aC|apply aF)|(right;simp;done)))
 have hn0:Has W0 w.heap.size 63 (au x).toArray:=by rw[<-hW0];exact Has.new _ _ _
 have fJ:=uo W0 x (h.kept hk0);have aN:=ah hk0;have dF:=ah hn0;have HX:=ah h;have hlt0:w.heap.size<W0.heap.size:=hn0.lt;clear hk0 hn0 h;by_cases hz:fA x=0;rotate_left
 ·have hr:iM x=emp:=by unfold iM;rw[if_neg hz]
  rw[hr];obtain⟨z,hz1⟩:∃z,fA x=z:=⟨_,rfl⟩;rw[hz1]at hz fJ⊢;have hz2:(z !=0)=true:=by simpa using hz
  have HC:=ah fJ;clear hr hz hz1 fJ hlt0;go_enter Tryz.func53,Tryz.ntmps53;go_wp2_with (refine wpList_load_row rfl 63 (.tmp 1) rfl w.heap.size rfl 63 _ (0,0) _ dF.out Tryz.underlying63 rfl (by kernel_rfl) ?_);clear hW0;refine HC.out.mono ?_;rintro e w2 ⟨rfl,hk⟩;have HK:=ah (aN.out.then hk);clear hk;go_wp2;go_ret2;exact⟨rfl,HK.out⟩
 have hr:iM x=bJ (qI x):=by unfold iM;rw[if_pos hz]
 rw[hr];obtain⟨hkk,hwr⟩:=sJ hz;rw[hz]at fJ⊢;have nH:1<=x.k/\x.k<=15:=of_decide_eq_true hkk;have hp:=fun W=>pM W x.k hkk;have hlet:=kM x.k;have zC:=pG x.k;have hpm:qI x=put x.k.toNat++(partsOf x.k).flatMap (aT x):=rfl;rw[hpm];obtain⟨l,hl⟩:∃l,partsOf x.k=l:=⟨_,rfl⟩;rw[hl]at hp hlet zC hwr⊢;obtain⟨k,hk⟩:∃k:Nat,x.k=k:=⟨x.k.toNat,by omega⟩;have hq:∀W,Has W w.heap.size 63 (au x).toArray->W.cell? ⟨w.heap.size,0,none⟩=some (.int .i64 (k:Int)):=fun W hW=>by have h0:W.cell? ⟨w.heap.size,0,none⟩=some (.int .i64 x.k):=hW.cell 0;rw[hk]at h0;exact h0
 rw[hk]at hp nH⊢;rw[Int.toNat_natCast];have HC:=ah fJ;have HP:=ah hp;have uq:=ah hlet;have Fj:=ah zC;have wK:=ah hwr;have HQ:=ah hq;have uy:=ah nH;have Gs:=ah hlt0;clear fJ hp hlet zC hwr hq hz hr hkk hk hl hpm nH hlt0;have q0:=HQ.out _ dF.out;go_enter Tryz.func53,Tryz.ntmps53;go_wp2_with (refine wpList_load_row rfl 63 (.tmp 1) rfl w.heap.size rfl 63 _ (0,0) _ dF.out Tryz.underlying63 rfl (by kernel_rfl) ?_);clear hW0 q0;refine HC.out.mono ?_;rintro e w2 ⟨rfl,hk2⟩;have zx:=ah (dF.out.kept hk2 (fun z=>z));have bK:=ah (aN.out.then hk2);clear hk2;have q0:=HQ.out _ zx.out;go_wp2_with fail;clear q0;refine(HP.out _).mono ?_;rintro e w3 ⟨rfl,hk3⟩;have zi:=ah (zx.out.kept hk3 (fun z=>z));have bf:=ah (bK.out.then hk3);clear hk3;have c0:=HQ.out _ zi.out
 have hnew:∀W,Has W w.heap.size 63 (au x).toArray->Calls Tryz.prog 87 #[] W fun e w'=>∃g,e=.returned (.pointer (some ⟨g,0,none⟩))/\WS W.heap.size w' g [] [(w.heap.size,.cells (au x).toArray 63)]/\Kept aj W w':=
  fun W hW=>nV W _ (fun y hy=>by simp at hy;subst hy;exact hW)
 have fB:=ah hnew;clear hnew;go_wp2_with fail
 go_region_held3 (fun W=>W.cell? ⟨w.heap.size,0,none⟩=some (.int .i64 (k:Int))) (first|with_reducible exact q5|with_reducible exact q4|with_reducible exact c0|(simp[go_sem,c0];done))
  (first
   |(go_at_call 87;refine(fB.out _ (by exact zi.out)).mono ?_;rintro e w4 ⟨g,rfl,hw4,Bo⟩;have q4:=HQ.out _ (hw4.has (List.mem_singleton.2 rfl));have jU:=ah hw4;have Bq:=ah Bo;clear hw4 Bo)
   |(go_at_call 88;refine(dU (by exact jU.out) k (by have:=uy.out;omega) (by simp)).mono ?_;rintro e w5 ⟨rfl,hw5,hb5⟩;have q5:=HQ.out _ (hw5.has (List.mem_singleton.2 rfl));have gQ:=ah hw5;have fV:=ah hb5;clear hw5 hb5))
 have hk4:Kept aj w w4:=Kept.then (by(repeat'(first|(with_reducible first|exact ay|apply aA|apply aB|apply aC|apply aF)|(with_reducible exact bf.out)|(right;simp;done)))) Bq.out;have hle:w.heap.size<=w3.heap.size:=bf.out.size;have hk5:Kept aj w w5:=behind hk4 fV.out hle;have hw5:=gQ.out;simp only[List.nil_append]at hw5;have hN:(w3.drewN 0).heap.size=w3.heap.size:=rfl;clear q4 q5 c0 jU gQ fV Bq hk4 fB HC HP hN;have gQ:=ah hw5;have dw:=ah hk5;have Bv:=ah hle;clear hw5 hk5 hle;have zD:=aI (n:=k) (by have:=uy.out;omega);have hne:put k≠[]:=by intro e;have h1:=put_pos k;rw[e]at h1;simp at h1
 have HH:=ah (And.intro zD hne);clear zD hne;go_wp2_with fail;go_loopg [] l.length (fun gf wx=>∃i:Nat,i<=l.length/\WS w3.heap.size wx g (put k++(l.take i).flatMap (aT x)) [(w5.heap.size,.stringIter (lets l) i),(w.heap.size,.cells (au x).toArray 63)]/\Kept aj w wx/\l.length<=i+gf)
 case atStart=>exact⟨0,Nat.zero_le _,(by rw[List.take_zero,List.flatMap_nil,List.append_nil];exact gQ.out.add (.stringIter (lets l) 0)),dw.out.alloc _,by omega⟩
 case round=>
  obtain⟨i,hi,hws,hk,hfu⟩:=hrel;have HK:=ah hk;clear hk;have hit:wr.heap[w5.heap.size]? =some (.stringIter (lets l) i):=hws.has (List.mem_cons_self ..);by_cases hil:i<l.length
  ·obtain⟨g',rfl⟩:∃g',gk=g'+1:=⟨gk-1,by omega⟩;obtain⟨c,hc⟩:∃c,l[i]? =some c:=⟨_,lB0 hil⟩;have hci:l[i]=c:=by rw[lB0 hil]at hc;exact Option.some.inj hc
   have hcm:=lC0 hc;obtain⟨hps,hb,ha⟩:=sF uq.out hc;have hnx:∀ty,(Instr.next (.pointer (some ⟨w5.heap.size,0,none⟩)) true ty).run Tryz.prog wr=_:=fun ty=>Lib.run_next_ascii_at wr w5.heap.size (lets l) i ty hit hps ha;rw[hb]at hnx;have h05:=nX (gQ.out.has (List.mem_singleton.2 rfl));have hs2:=hws.iterAt (q:=i+1) (fun y hy=>by simp at hy;subst hy;dsimp only;dsimp only at h05;omega);have hk2:=Kept.iterAt HK.out (k:=w5.heap.size) (.inr dw.out.size) (lets l) (i+1);obtain⟨W,hWd⟩:∃W,wr.iterAt w5.heap.size (lets l) (i+1)=W:=⟨_,rfl⟩;rw[hWd]at hnx hs2 hk2;have hfl:=dL (aT x) (l.take i) 1100 (fun y hy=>pJ HX.out (wK.out y (List.mem_of_mem_take hy)));have hmin:(l.take i).length<=7:=by rw[List.length_take];have:=Fj.out;omega
   have hlen:(put k++(l.take i).flatMap (aT x)).length<=100000:=by rw[lA0];have:=HH.out.1;omega
   have hcall:=write_any (w0:=w) c (uq.out c hcm) hs2 ⟨HX.out,hk2,Bv.out,hlen⟩ (wK.out c hcm);have bu:=fO (aT x) l i hil;rw[hci]at bu;rw[List.append_assoc,<-bu]at hcall;have Bg:=ah hcall;have HS2:=ah hs2;have jS:=ah hk2;clear hcall hs2 hk2 hWd hb ha hps hit hc hci hcm hfl hmin hlen bu hws h05;go_wp2_with (refine wpList_load_row rfl 63 (.tmp 1) rfl w.heap.size rfl 63 _ (0,0) _ (HS2.out.has (x:=(w.heap.size,.cells (au x).toArray 63)) (List.mem_cons_of_mem _ (List.mem_singleton.2 rfl))) Tryz.underlying63 rfl (by kernel_rfl) ?_);refine Bg.out.mono ?_;rintro e w6 ⟨rfl,hs6,hb6⟩;have Fp:=ah hs6;have cO:=ah (behind jS.out hb6 Bv.out);clear hs6 hb6;go_wp2;go_roundg g'
   case measure=>omega
   case rel=>exact⟨i+1,by omega,Fp.out,cO.out,by omega⟩
  ·obtain rfl:i=l.length:=by omega
   rw[List.take_length]at hws;have hps:¬l.length<(lets l).size:=by rw[kY];omega
   have hnx:∀ty,(Instr.next (.pointer (some ⟨w5.heap.size,0,none⟩)) true ty).run Tryz.prog wr=_:=fun ty=>Lib.run_next_end_at wr w5.heap.size (lets l) l.length ty hit hps;obtain⟨R,hR⟩:∃R,put k++l.flatMap (aT x)=R:=⟨_,rfl⟩;rw[hR]at hws;have hne:R≠[]:=by rw[<-hR];have:=HH.out.2;simp;intro h;exact absurd h this
   have jV:=ah hws;have mF:=ah hne;have HR:=ah hR;clear hit hps hne hws hR;go_wp2_with fail;refine(kZ jV.out mF.out).mono ?_;rintro e w6 ⟨rfl,hb6⟩;have cO:=ah (behind HK.out hb6 Bv.out);clear hb6;go_wp2;go_ret2;exact⟨by rw[HR.out];rfl,cO.out⟩

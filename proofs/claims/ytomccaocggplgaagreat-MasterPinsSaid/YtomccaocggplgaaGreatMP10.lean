/- Part 11. -/
import Derived.Test.YtomccaocggplgaaGreatMP09
import Derived.Sort.OwnSortedInts
set_option linter.unusedSimpArgs false
set_option linter.unusedVariables false
set_option maxHeartbeats 32000000
set_option maxRecDepth 100000
namespace Go.Proofs.YtomccaocggplgaaGreat
open Go.RowKit
namespace Mst
open aJ Vn Go.Sort
abbrev RowOf(v:Value)(k:Nat):Prop:=v.ownBlock=some k
def tK(l:List Int):List Int:=l.mergeSort fun x y=>decide (x<=y)
theorem Ez(l:List Int):(tK l).length=l.length:=by simp[tK]
theorem LJ{w:World}{B:Nat}{A:Option Addr}{n c:Nat}{ss:List Int}(hn:n=ss.length)(h:w.ownsRow B 3 1 (.slice A n c) n (ints ss))(hsz:ss.length<4611686018427387904):
  Calls Tryz.prog 58 #[.slice A n c] w fun e w'=>e=.returned (.tuple #[])/\w'.ownsRow B 3 1 (.slice A n c) n (ints (tK ss))/\Kept (RowOf (.slice A n c)) w w':=by
 subst hn;have h':=h;rcases h.2 with⟨hv,h0⟩|⟨g,cap,cur,hv,hb',hg,h1,h2,h3,h4⟩
 ·have hs:ss=[]:=lE0 h0;subst hs;refine(XL.slices_Sort_int_none A c w).mono ?_;rintro e w' ⟨rfl,rfl⟩;exact⟨rfl,by simpa [tK]using h',Kept.refl _ _⟩
 ·injection hv with e1 e2 e3;subst e1;subst e3;refine(XL.slices_Sort_int g 0 c ss w (holds_of_blockI hg (by simpa using h4)) (Array.getElem?_eq_some_iff.1 hg).1 hsz).mono ?_;rintro e w' ⟨rfl,n,os,rfl⟩;exact⟨rfl,ownsRow_sortedI (by simp) hb' hg h1 h2 h3,(Kept.refl _ _).grownBy (grownBy_sortedI _) (fun k hk=> .inl hk)⟩
def kY(l:List Int)(id:Int):List Int:=if inB l id=true then l else tK (l++[id])
def xB(w:World)(b:Nat)(s:bQ)(mA:Option Addr)(mc:Nat)(lA:Option Addr)(lc:Nat)(pA:Option Addr)(pc:Nat)(id:Int)(e:Ending)(w':World):Prop:=
 (cO s.ms id=false/\e=.returned (.int .i64 7)/\Kept aj w w')\/
 (cO s.ms id=true/\e=.returned (.int .i64 0)/\∃B d,Has w' b 121 (dL {s with lg:=kY s.lg id} mA mc B d pA pc true)/\w'.ownsRow 0 3 1 (.slice B (kY s.lg id).length d) (kY s.lg id).length (ints (kY s.lg id))/\
  (∀k,RowOf (.slice B (kY s.lg id).length d) k->RowOf (.slice lA s.lg.length lc) k\/w.heap.size<=k)/\Kept (fun k=>k=b\/RowOf (.slice lA s.lg.length lc) k) w w')
theorem XM(w:World)(b:Nat)(s:bQ)(mA:Option Addr)(mc:Nat)(lA:Option Addr)(lc:Nat)(pA:Option Addr)(pc:Nat)(id:Int)(hb:Has w b 121 (dL s mA mc lA lc pA pc true))
  (hm:Src w 2 mA s.ms.length (aU s.ms)) (hml:s.ms.length<=1000) (hl:w.ownsRow 0 3 1 (.slice lA s.lg.length lc) s.lg.length (ints s.lg)) (hll:s.lg.length<=1000):
  Calls Tryz.prog 82 #[.pointer (some ⟨b,0,none⟩),.int .i64 id] w (xB w b s mA mc lA lc pA pc id):=by
 have hmem:=fun W (hW:Kept aj w W)=>oM W s.ep s.fl mA mc s.ms id (hm.kept hW (fun _ _ z=>z)) (by omega);have hcon:=fun W (hW:Kept aj w W)=>lG W lA lc s.lg id ((Src.bF hl).kept hW (fun _ _ z=>z)) (by omega);have hce:∀W,Kept aj w W->W.cell? ⟨b,0,none⟩=some (.int .i64 s.ep)/\W.cell? ⟨b,1,none⟩=some (.slice mA s.ms.length mc)/\W.cell? ⟨b,2,none⟩=some (.int .u64 s.fl)/\W.cell? ⟨b,3,none⟩=some (.slice lA s.lg.length lc)/\W.frozen? ⟨b,3,none⟩=false:=fun W hW=>by have g:=hb.kept hW (fun z=>z);exact⟨g.cell 0,g.cell 1,g.cell 2,g.cell 3,g.frozen 3⟩
 obtain⟨c0,c1,c2,c3,f3⟩:=hce w (Kept.refl _ _);have HM:=ah hmem;have UT:=ah hcon;have iY:=ah hce;have HB:=ah hb;have HL:=ah hl;have HP:Hid _:=ah (show∀e w',xB w b s mA mc lA lc pA pc id e w'->xB w b s mA mc lA lc pA pc id e w' from fun _ _ h=>h);cases h1:cO s.ms id
 ·have H1:=ah h1;rw[h1]at hmem;have HM:=ah hmem;clear hmem hcon hce hb hl hm h1 c3 f3;go_enter Tryz.func82,Tryz.ntmps82;go_wp2_with fail;refine(HM.out _ (Kept.refl _ _)).mono ?_;rintro e w2 ⟨rfl,hk⟩;have HK:=ah hk;clear hk;go_wp2;go_ret;exact .inl ⟨H1.out,rfl,HK.out⟩
 ·have H1:=ah h1;rw[h1]at hmem;have HM:=ah hmem;clear hmem hce hm h1 c3 f3;cases h2:inB s.lg id
  ·have hT:kY s.lg id=tK (s.lg++[id]):=by unfold kY;rw[h2,if_neg (by simp)]
   rw[h2]at hcon;have HC:=ah hcon;have HT:=ah hT;clear hcon hb hl h2 hT;go_enter Tryz.func82,Tryz.ntmps82;go_wp2_with fail;refine(HM.out _ (Kept.refl _ _)).mono ?_;rintro e w2 ⟨rfl,hk⟩;have HK:=ah hk;clear hk c0 c1 c2;obtain⟨c0,c1,c2,c3,f3⟩:=iY.out w2 HK.out;go_wp2_with fail;refine(HC.out _ HK.out).mono ?_;rintro e w3 ⟨rfl,hk⟩;have hk3:=HK.out.then hk;clear hk c0 c1 c2 c3 f3;have bu:=ah hk3;clear hk3;obtain⟨c0,c1,c2,c3,f3⟩:=iY.out w3 bu.out;go_wp2_with (at_builtin;refine aN jS (.tmp 23) (.tmp 25) rfl rfl (Value.slice lA s.lg.length lc) rfl (aC (F:=aj) HL.out (bu.out.alloc _) (fun _ _ z=>z)) 1 rfl (Src.dA (Has.new _ _ _) rfl) (by intro u hu;simp at hu;subst hu;rfl) (by unfold maxLen;omega) (by omega) ?_;intro A1 k1 w4 ho1 hg1 ha1;have hk4:Kept (RowOf (.slice lA s.lg.length lc)) w w4:=Kept.grown (Kept.up (bu.out.alloc _)) hg1 (fun k hk=> .inl hk);have hb4:=HB.out.kept hk4 (own_ne HL.out HB.out (by decide));have c4:w4.cell? ⟨b,3,none⟩=some (.slice lA s.lg.length lc):=hb4.cell 3;have f4:=hb4.frozen 3;have uw:=ah (And.intro ho1 (And.intro ha1 (And.intro hk4 hb4)));clear ho1 hg1 ha1 hk4 hb4);have hb5:=uw.out.2.2.2.put 3 (.slice A1 (s.lg.length+1) k1);have hk5:Kept (fun k=>k=b) w4 (w4.setCell ⟨b,3,none⟩ (.slice A1 (s.lg.length+1) k1)):=(Kept.refl (fun k=>k=b) w4).put (.inl rfl);have uO:=aC uw.out.1 hk5 (fun g hg hF=>own_ne uw.out.1 uw.out.2.2.2 (by decide) (by rw[hg,hF]));have hsrt:=LJ (ss:=s.lg++[id]) (n:=s.lg.length+1) (by simp) (by simpa [ints]using uO) (by simp;omega);have pN:=ah hsrt;have dB:=ah (And.intro hk5 (And.intro hb5 uO));clear hsrt hk5 hb5 uO;go_wp2_with fail;refine pN.out.mono ?_;rintro e w6 ⟨rfl,DY,hk6⟩;have kQ:=ah (And.intro hk6 DY);clear hk6 DY;have HRB:=ah HB.out.lt;go_wp2;go_ret;have hne:¬RowOf (.slice A1 (s.lg.length+1) k1) b:=own_ne dB.out.2.2 dB.out.2.1 (by decide);have hb6:=dB.out.2.1.kept kQ.out.1 hne;have hlen:(tK (s.lg++[id])).length=s.lg.length+1:=by rw[Ez];simp
   have hnew:∀k,RowOf (.slice A1 (s.lg.length+1) k1) k->RowOf (.slice lA s.lg.length lc) k\/w.heap.size<=k:=by
    intro k hk;rcases uw.out.2.1 with e|e
    ·exact .inl (e.symm.trans hk)
    ·have h9:=e.symm.trans hk;injection h9 with h9;have:=bu.out.size;simp only[size_alloc]at h9;exact .inr (by omega)
   refine .inr ⟨H1.out,rfl,A1,k1,?_⟩;rw[HT.out,hlen];refine⟨?_,kQ.out.2,hnew,?_⟩
   ·have e9:dL {s with lg:=tK (s.lg++[id])} mA mc A1 k1 pA pc true=(dL s mA mc lA lc pA pc true).setIfInBounds 3 (.slice A1 (s.lg.length+1) k1):=by simp[dL,hlen]
    rw[e9];exact hb6
   ·refine Kept.trans (F:=fun k=>k=b\/RowOf (.slice lA s.lg.length lc) k) (G:=fun k=>k=b\/RowOf (.slice A1 (s.lg.length+1) k1) k) (uw.out.2.2.1.mono (fun k hk=> .inr hk)) ((dB.out.1.mono (fun k hk=> .inl hk)).then (kQ.out.1.mono (fun k hk=> .inr hk))) ?_;rintro k (hk|hk)
    ·exact .inl (.inl hk)
    ·rcases hnew k hk with h|h
     ·exact .inl (.inr h)
     ·exact .inr h
  ·have hT:kY s.lg id=s.lg:=by unfold kY;rw[h2,if_pos rfl]
   rw[h2]at hcon;have HC:=ah hcon;have HT:=ah hT;clear hcon hb hl h2 hT;go_enter Tryz.func82,Tryz.ntmps82;go_wp2_with fail;refine(HM.out _ (Kept.refl _ _)).mono ?_;rintro e w2 ⟨rfl,hk⟩;have HK:=ah hk;clear hk c0 c1 c2;obtain⟨c0,c1,c2,c3,f3⟩:=iY.out w2 HK.out;go_wp2_with fail;refine(HC.out _ HK.out).mono ?_;rintro e w3 ⟨rfl,hk⟩;have hk3:=HK.out.then hk;clear hk c0 c1 c2 c3 f3;have bu:=ah hk3;clear hk3;go_wp2;go_ret;refine .inr ⟨H1.out,rfl,lA,lc,?_⟩;rw[HT.out];exact⟨HB.out.kept bu.out (fun z=>z),aC HL.out bu.out (fun _ _ z=>z),fun k hk=> .inl hk,Kept.up bu.out⟩
end Mst
namespace Mst
open aJ Vn Go.Sort
def oC(s:bQ)(p:aO):Int:=if 0<=bV s.pins p.id then 0 else if 3<=s.pins.length then 17 else if p.id<=s.top then 18 else if p.at'<s.hz then 13 else 0
def jy(s:bQ)(p:aO):bQ:=if 0<=bV s.pins p.id then {s with pins:=jk s.pins p.id}else{s with pins:=s.pins++[⟨p.id,p.at',8⟩],top:=p.id}
def BM(w:World)(b:Nat)(s:bQ)(mA:Option Addr)(mc:Nat)(lA:Option Addr)(lc:Nat)(pA:Option Addr)(pc:Nat)(p:aO)(e:Ending)(w':World):Prop:=
 (oC s p≠0/\e=.returned (.int .i64 (oC s p))/\Kept aj w w')\/
 (oC s p=0/\e=.returned (.int .i64 0)/\∃B d,Has w' b 121 (dL (jy s p) mA mc lA lc B d true)/\w'.ownsRow 0 53 3 (.slice B (jy s p).pins.length d) (jy s p).pins.length (aS (jy s p).pins)/\
  (∀k,RowOf (.slice B (jy s p).pins.length d) k->RowOf (.slice pA s.pins.length pc) k\/w.heap.size<=k)/\Kept (fun k=>k=b\/RowOf (.slice pA s.pins.length pc) k) w w')
theorem pO(l:List aO)(id:Int):(jk l id).length=l.length:=by unfold jk;split<;>simp
theorem KD(w:World)(b:Nat)(s:bQ)(mA:Option Addr)(mc:Nat)(lA:Option Addr)(lc:Nat)(pA:Option Addr)(pc:Nat)(p:aO)(hb:Has w b 121 (dL s mA mc lA lc pA pc true))
  (hp:w.ownsRow 0 53 3 (.slice pA s.pins.length pc) s.pins.length (aS s.pins)) (hpl:s.pins.length<=1000):
  Calls Tryz.prog 83 #[.pointer (some ⟨b,0,none⟩),CJ p] w (BM w b s mA mc lA lc pA pc p):=by
 have OP:=fun W (hW:Kept aj w W)=>LG W pA pc s.pins p.id ((Src.bF hp).kept hW (fun _ _ z=>z)) (gJ hp).1 (by omega);have hbn:b≠w.heap.size:=by have:=hb.lt;omega
 obtain⟨E,hE⟩:∃E,oC s p=E:=⟨_,rfl⟩;have LH:∀w',E≠0->Kept aj w w'->BM w b s mA mc lA lc pA pc p (.returned (.int .i64 E)) w':=fun w' h0 hk=> .inl ⟨by rw[hE];exact h0,by rw[hE],hk⟩
 have hP0:∀w' B d,E=0->Has w' b 121 (dL (jy s p) mA mc lA lc B d true)->w'.ownsRow 0 53 3 (.slice B (jy s p).pins.length d) (jy s p).pins.length (aS (jy s p).pins)->
   (∀k,RowOf (.slice B (jy s p).pins.length d) k->RowOf (.slice pA s.pins.length pc) k\/w.heap.size<=k)->Kept (fun k=>k=b\/RowOf (.slice pA s.pins.length pc) k) w w'->BM w b s mA mc lA lc pA pc p (.returned (.int .i64 0)) w':=
  fun w' B d h0 h1 h2 h3 h4=> .inr ⟨by rw[hE,h0],rfl,B,d,h1,h2,h3,h4⟩
 unfold oC at hE;obtain⟨id,at2,left⟩:=p;dsimp only at hE hP0 LH OP;obtain⟨W0,hW0⟩:∃W0,w.alloc (.cells #[.int .i64 id,.int .u64 at2,.int .i64 left] 53)=W0:=⟨_,rfl⟩;have hk0:Kept aj w W0:=by rw[<-hW0];(repeat'(first|(with_reducible first|exact ak|apply au|apply ay|apply aA|apply aB)|(right;simp;done)))
 have hn0:Has W0 w.heap.size 53 #[.int .i64 id,.int .u64 at2,.int .i64 left]:=by rw[<-hW0];exact Has.new _ _ _
 have hb0:=hb.kept hk0 (fun z=>z);have hce:∀W,Kept aj W0 W->W.cell? ⟨w.heap.size,0,none⟩=some (.int .i64 id)/\W.cell? ⟨w.heap.size,1,none⟩=some (.int .u64 at2)/\W.cell? ⟨b,5,none⟩=some (.slice pA s.pins.length pc)/\W.cell? ⟨b,4,none⟩=some (.int .u64 s.hz)/\W.cell? ⟨b,6,none⟩=some (.int .i64 s.top)/\W.frozen? ⟨b,5,none⟩=false:=fun W hW=>by have g:=hn0.kept hW (fun z=>z);have g2:=hb0.kept hW (fun z=>z);exact⟨g.cell 0,g.cell 1,g2.cell 5,g2.cell 4,g2.cell 6,g2.frozen 5⟩
 obtain⟨q0,q1,q5,q4,q6,f5⟩:=hce W0 (Kept.refl _ _);have hsep:=own_ne (aC hp hk0 (fun _ _ z=>z)) hb0 (by decide);by_cases h0:0<=bV s.pins id
 ·rw[if_pos h0]at hE;subst hE;have Ja:∀W,Kept aj w W->Calls Tryz.prog 151 #[.slice pA s.pins.length pc,.int .i64 id] W fun e w'=>∃A c,e=.returned (.tuple #[.slice A s.pins.length c,.int .i64 0])/\aF 53 3 W.heap.size w' A s.pins.length c (aS (jk s.pins id))/\Kept aj W w':=fun W hW=>(OP W hW).mono fun e w' h=>by
   rcases h with⟨h1,_⟩|⟨_,A,c,h1,h2,h3⟩
   ·omega
   ·rw[pO]at h1 h2;exact⟨A,c,h1,h2,h3⟩
  have hS:jy s ⟨id,at2,left⟩={s with pins:=jk s.pins id}:=by unfold jy;rw[if_pos h0]
  rw[hS]at hP0;have XI:=ah hP0;have HR:=ah Ja;have iY:=ah hce;have HB0:=ah hb0;have bf:=ah hk0;have ahx:=ah hsep;have HBL:=ah hb.lt;clear LH hP0 OP Ja hce hn0 hb0 hk0 hbn hp hb hS h0 hsep q0 q1 q4 q6;go_enter Tryz.func83,Tryz.ntmps83;go_wp2_with fail;clear hW0;have q:=iY.out W0 (Kept.refl _ _);obtain⟨q0,q1,q5,q4,q6,f5⟩:=q;have HS:=ah (Kept.refl aj W0)
  go_region_held3 (fun W=>W.cell? ⟨w.heap.size,0,none⟩=some (.int .i64 id)/\W.cell? ⟨w.heap.size,1,none⟩=some (.int .u64 at2)/\W.cell? ⟨b,5,none⟩=some (.slice pA s.pins.length pc)/\W.cell? ⟨b,4,none⟩=some (.int .u64 s.hz)/\W.cell? ⟨b,6,none⟩=some (.int .i64 s.top)/\W.frozen? ⟨b,5,none⟩=false)
   (first|with_reducible exact iY.out _ HS.out|exact iY.out _ HS.out.drew|(simp[go_sem,q0,q1,q5,q4,q6,f5];done))
   (first
    |(go_at_call 151;((with_reducible refine(HR.out _ ?_).mono ?_);exact bf.out.then (by(repeat'(first|(with_reducible first|exact ak|apply au|apply ay|apply aA|apply aB)|(exact HS.out)|(right;simp;done))));rintro e w5 ⟨A5,c5,rfl,kG,hk5⟩;have hk:=Kept.then (F:=aj) (a:=W0) (by(repeat'(first|(with_reducible first|exact ak|apply au|apply ay|apply aA|apply aB)|(exact HS.out)|(right;simp;done)))) hk5;have uP:=ah (And.intro kG HS.out.size);clear HS hk5 kG;have HS:=ah hk;clear hk)))
  clear q0 q1 q5 q4 q6 f5;obtain⟨q0,q1,q5,q4,q6,f5⟩:=iY.out _ HS.out;go_wp2;go_ret;have hb5:=HB0.out.kept HS.out (fun z=>z);have hk6:Kept (fun k=>k=b) w5 (w5.setCell ⟨b,5,none⟩ (.slice A5 s.pins.length c5)):=(Kept.refl (fun k=>k=b) w5).put (.inl rfl);have hne:=own_ne uP.out.1.1 hb5 (by decide);refine XI.out _ A5 c5 trivial ?_ ?_ ?_ (((Kept.up (bf.out.then HS.out)).then hk6).mono (fun k hk=> .inl hk))
  ·unfold dL;dsimp only;rw[pO];((repeat (first|with_reducible exact hb5|with_reducible apply Has.dH|with_reducible apply Has.past|with_reducible apply Has.drewN|with_reducible apply Has.drew|with_reducible apply Has.alloc))<;>first|omega|rfl)
  ·rw[pO];exact aC uP.out.1.1 hk6 (fun g hg hF=>hne (by rw[hg,hF]))
  ·rw[pO];exact fun k hk=> .inr (Nat.le_trans bf.out.size (Nat.le_trans uP.out.2 (uP.out.1.2 k hk)))
 ·rw[if_neg h0]at hE;have Ja:∀W,Kept aj w W->Calls Tryz.prog 151 #[.slice pA s.pins.length pc,.int .i64 id] W fun e w'=>e=.returned (.tuple #[.slice none 0 0,.int .i64 7])/\Kept aj W w':=fun W hW=>(OP W hW).mono fun e w' h=>by
   rcases h with⟨_,h1,h2⟩|⟨h1,_⟩
   ·exact⟨h1,h2⟩
   ·omega
  have hS:jy s ⟨id,at2,left⟩={s with pins:=s.pins++[⟨id,at2,8⟩],top:=id}:=by unfold jy;rw[if_neg h0]
  rw[hS]at hP0;have DW:=ah LH;have HE:=ah hE;have XI:=ah hP0;have HR:=ah Ja;have iY:=ah hce;have HB0:=ah hb0;have dW:=ah hn0;have bf:=ah hk0;have ahx:=ah hsep;have HBL:=ah hb.lt;have LK:=ah (aC hp hk0 (fun _ _ z=>z));have XJ:=ah hbn;have zk:=ah hp;clear LH hE hP0 OP Ja hce hn0 hb0 hk0 hbn hp hb hS h0 hsep q0 q1 q4 q6;go_enter Tryz.func83,Tryz.ntmps83;go_wp2_with fail;clear hW0;have q:=iY.out W0 (Kept.refl _ _);obtain⟨q0,q1,q5,q4,q6,f5⟩:=q;have HS:=ah (Kept.refl aj W0)
  go_region_held3 (fun W=>W.cell? ⟨w.heap.size,0,none⟩=some (.int .i64 id)/\W.cell? ⟨w.heap.size,1,none⟩=some (.int .u64 at2)/\W.cell? ⟨b,5,none⟩=some (.slice pA s.pins.length pc)/\W.cell? ⟨b,4,none⟩=some (.int .u64 s.hz)/\W.cell? ⟨b,6,none⟩=some (.int .i64 s.top)/\W.frozen? ⟨b,5,none⟩=false)
   (first|with_reducible exact iY.out _ HS.out|exact iY.out _ HS.out.drew|(simp[go_sem,q0,q1,q5,q4,q6,f5];done))
   (first
    |(go_at_call 151;((with_reducible refine(HR.out _ ?_).mono ?_);exact bf.out.then (by(repeat'(first|(with_reducible first|exact ak|apply au|apply ay|apply aA|apply aB)|(exact HS.out)|(right;simp;done))));rintro e w5 ⟨rfl,hk5⟩;have hk:=Kept.then (F:=aj) (a:=W0) (by(repeat'(first|(with_reducible first|exact ak|apply au|apply ay|apply aA|apply aB)|(exact HS.out)|(right;simp;done)))) hk5;clear HS hk5;have HS:=ah hk;clear hk)))
  clear q0 q1 q5 q4 q6 f5;obtain⟨q0,q1,q5,q4,q6,f5⟩:=iY.out _ HS.out;by_cases h3:3<=s.pins.length
  ·have he:=HE.out;rw[if_pos h3]at he;subst he;have h3':(3:Int)<=(s.pins.length:Int):=by omega
   go_wp2;go_ret;exact DW.out _ (by decide) (bf.out.then HS.out)
  ·have h3':¬(3:Int)<=(s.pins.length:Int):=by omega
   have he:=HE.out;rw[if_neg h3]at he;clear HE;have HE:=ah he;clear he;by_cases h4:id<=s.top
   ·have he:=HE.out;rw[if_pos h4]at he;subst he;go_wp2_with fail;go_quiet (fail);go_wp2;go_ret;exact DW.out _ (by decide) ((bf.out.then HS.out).drewN _)
   ·have he:=HE.out;rw[if_neg h4]at he;clear HE;have HE:=ah he;clear he;have afm:∀n,(w5.drewN n).cell? ⟨w.heap.size,1,none⟩=some (.int .u64 at2)/\(w5.drewN n).cell? ⟨b,4,none⟩=some (.int .u64 s.hz):=fun n=>⟨q1,q4⟩;have HC2:=ah afm;clear afm;by_cases h5:at2<s.hz
    ·have he:=HE.out;rw[if_pos h5]at he;subst he;go_wp2_with fail;go_quiet (fail);obtain⟨r1,r4⟩:=HC2.out nq;go_wp2_with fail;go_quiet (fail);go_wp2;go_ret;exact DW.out _ (by decide) (((bf.out.then HS.out).drewN _).drewN _)
    ·have he:=HE.out;rw[if_neg h5]at he;clear HE;have HE:=ah he;clear he;go_wp2_with fail;go_quiet (fail);obtain⟨r1,r4⟩:=HC2.out nq;go_wp2_with fail;go_quiet (fail);clear r1 r4 q0 q1 q5 q4 q6 f5 HC2;generalize hw6:World.drewN (World.drewN w5 _) _=w6;have hk6:Kept aj W0 w6:=by rw[<-hw6];exact(HS.out.drewN _).drewN _
     have hx6:=dW.out.kept hk6 (fun z=>z);have hb6:=HB0.out.kept hk6 (fun z=>z);have DY:=aC LK.out hk6 (fun _ _ z=>z);clear hw6;have x2:w6.cell? ⟨w.heap.size,2,none⟩=some (.int .i64 left):=hx6.cell 2;have y2:=hx6.frozen 2;have HX6:=ah (And.intro hx6 (And.intro hb6 DY));have kQ:=ah hk6;clear hx6 hb6 DY hk6 HS;go_wp2_with fail;clear x2 y2;obtain⟨w7,hw7⟩:∃w7,w6.setCell ⟨w.heap.size,2,none⟩ (.int .i64 8)=w7:=⟨_,rfl⟩;rw[hw7];have hx7:Has w7 w.heap.size 53 #[.int .i64 id,.int .u64 at2,.int .i64 8]:=by rw[<-hw7];exact HX6.out.1.dH rfl
     have hb7:Has w7 b 121 (dL s mA mc lA lc pA pc true):=by rw[<-hw7];exact HX6.out.2.1.past XJ.out
     have nG:Kept aj w w7:=by rw[<-hw7];exact(bf.out.then kQ.out).put (.inr (Nat.le_refl _))
     have sV:=aC zk.out nG (fun _ _ z=>z);clear hw7;have P0:w7.cell? ⟨w.heap.size,0,none⟩=some (.int .i64 id):=hx7.cell 0;have P1:w7.cell? ⟨w.heap.size,1,none⟩=some (.int .u64 at2):=hx7.cell 1;have P2:w7.cell? ⟨w.heap.size,2,none⟩=some (.int .i64 8):=hx7.cell 2;have Q5:w7.cell? ⟨b,5,none⟩=some (.slice pA s.pins.length pc):=hb7.cell 5;have hm1:s.pins.length+1<=maxLen:=by unfold maxLen;omega
     have hm2:(s.pins.length+1)*24<=140737488355328:=by omega
     have gU:=ah hm1;have iT:=ah hm2;have HX7:=ah hx7;have HB7:=ah hb7;have DU:=ah nG;have HO7:=ah sV;have hxl:=hx7.lt;have hbl:=hb7.lt;have pM:Hid (¬RowOf (.slice pA s.pins.length pc) w.heap.size):=ah (fun h=>Nat.lt_irrefl _ (mD zk.out h));have TA:Hid (¬RowOf (.slice pA s.pins.length pc) b):=ah (own_ne sV hb7 (by decide));clear hm1 hm2 hx7 hb7 nG sV;have ahy:=XJ.out;have aiN:w.heap.size≠b:=fun e=>ahy e.symm
     go_region_law (first
      |(with_reducible apply kU qN (.tmp 52) (.tmp 54) (n:=s.pins.length) (xs:=aS s.pins) (A:=some ⟨_,0,none⟩) (m:=1) (c:=1) (news:=[.int .i64 id,.int .u64 at2,.int .i64 8])
        rfl
        rfl
        exact(rfl:_=Value.slice pA s.pins.length pc)
        (refine aC HO7.out (F:=aj) ?_ (fun _ _ x=>x);(repeat'(first|(with_reducible first|exact ak|apply au|apply ay|apply aA|apply aB)|(right;simp;done))))
        exact(rfl:_=Value.slice (some ⟨_,0,none⟩) 1 1)
        (refine Src.dA (t:=53) (cs:=#[.int .i64 id,.int .u64 at2,.int .i64 8]) ?_ rfl;(repeat (with_reducible first|exact Has.bK _ _ _ (by simp)|apply Has.drew|apply Has.drewN|apply Has.alloc|(apply Has.past<;>(try omega)))))
        (intro u hu;simp at hu;rcases hu with rfl|rfl|rfl<;>rfl)
        exact gU.out
        exact iT.out
        intro A8 c8 w8 XN hg8 ha8
        have hk8:Kept (RowOf (.slice pA s.pins.length pc)) w7 w8:=by refine Kept.grown ?_ hg8 (fun k hk=> .inl hk);(repeat'(first|(with_reducible first|exact ak|apply au|apply ay|apply aA|apply aB)|(right;simp;done)))
        have hb8:=HB7.out.kept hk8 TA.out
        have Tq:=HX7.out.kept hk8 pM.out
        have P0':w8.cell? ⟨w.heap.size,0,none⟩=some (.int .i64 id):=Tq.cell 0
        have R5:w8.cell? ⟨b,5,none⟩=some (.slice pA s.pins.length pc):=hb8.cell 5
        have R6:w8.cell? ⟨b,6,none⟩=some (.int .i64 s.top):=hb8.cell 6
        have F5:w8.frozen? ⟨b,5,none⟩=false:=hb8.frozen 5
        have F6:w8.frozen? ⟨b,6,none⟩=false:=hb8.frozen 6))
     all_goals
      have hnew:∀k,RowOf (.slice A8 (s.pins.length+1) c8) k->RowOf (.slice pA s.pins.length pc) k\/w.heap.size<=k:=by
       intro k hk;rcases ha8 with e|e
       ·exact .inl (e.symm.trans hk)
       ·have h9:=e.symm.trans hk;injection h9 with h9;have:=DU.out.size;first|(simp at h9;exact .inr (by omega))|exact .inr (by omega)
      have HZ:=ah (And.intro XN (And.intro hnew (And.intro hk8 hb8)))
      have afn:=own_ne XN hb8 (by decide)
      have ahz:=ah afn
      clear XN hnew hk8 hb8 hg8 ha8 afn
      go_wp2
      go_ret
      obtain⟨XN,hnew,hk8,hb8⟩:=HZ.out
      have iM:Kept (fun k=>k=b) w8 ((w8.setCell ⟨b,5,none⟩ (.slice A8 (s.pins.length+1) c8)).setCell ⟨b,6,none⟩ (.int .i64 id)):=((Kept.refl (fun k=>k=b) w8).put (.inl rfl)).put (.inl rfl)
      have e9:(s.pins++[(⟨id,at2,8⟩:aO)]).length=s.pins.length+1:=by simp
      refine XI.out _ A8 c8 (by first|trivial|exact HE.out.symm) ?_ ?_ ?_ ?_
      ·unfold dL;dsimp only;rw[e9];((repeat (first|with_reducible exact hb8|with_reducible apply Has.dH|with_reducible apply Has.past|with_reducible apply Has.drewN|with_reducible apply Has.drew|with_reducible apply Has.alloc))<;>first|omega|rfl)
      ·rw[e9,qH];exact aC XN iM (fun g hg hF=>ahz.out (by rw[hg,hF]))
      ·rw[e9];exact hnew
      ·exact(Kept.trans (F:=fun k=>k=b\/RowOf (.slice pA s.pins.length pc) k) (Kept.up DU.out) (hk8.mono (fun k hk=> .inr hk)) (fun k hk=> .inl hk)).then (iM.mono (fun k hk=> .inl hk))
end Mst
namespace Mst
open aJ Vn Go.Sort
def fH(w:World)(b:Nat)(F:Nat->Prop)(s:bQ):Prop:=∃mA mc lA lc pA pc,(∀k,F k↔(k=b\/RowOf (.slice mA s.ms.length mc) k\/RowOf (.slice lA s.lg.length lc) k\/RowOf (.slice pA s.pins.length pc) k))/\
 Has w b 121 (dL s mA mc lA lc pA pc true)/\w.ownsRow 0 56 2 (.slice mA s.ms.length mc) s.ms.length (aU s.ms)/\w.ownsRow 0 3 1 (.slice lA s.lg.length lc) s.lg.length (ints s.lg)/\w.ownsRow 0 53 3 (.slice pA s.pins.length pc) s.pins.length (aS s.pins)
theorem fH.kept{w w':World}{b:Nat}{F G:Nat->Prop}{s:bQ}(h:fH w b F s)(hk:Kept G w w')(hs:Sep F G):fH w' b F s:=by obtain⟨mA,mc,lA,lc,pA,pc,hF,hb,hm,hl,hp⟩:=h;exact⟨mA,mc,lA,lc,pA,pc,hF,hb.kept hk (hs b ((hF b).2 (.inl rfl))),aC hm hk (fun g hg=>hs g ((hF g).2 (.inr (.inl hg)))),aC hl hk (fun g hg=>hs g ((hF g).2 (.inr (.inr (.inl hg))))),aC hp hk (fun g hg=>hs g ((hF g).2 (.inr (.inr (.inr hg)))))⟩
theorem fH.still{w w':World}{b:Nat}{F:Nat->Prop}{s:bQ}(h:fH w b F s)(hk:Kept aj w w'):fH w' b F s:=h.kept hk (fun _ _ z=>z)
theorem fH.lt{w:World}{b:Nat}{F:Nat->Prop}{s:bQ}(h:fH w b F s):∀k,F k->k<w.heap.size:=by
 obtain⟨mA,mc,lA,lc,pA,pc,hF,hb,hm,hl,hp⟩:=h;intro k hk;rcases(hF k).1 hk with rfl|h|h|h
 ·exact hb.lt
 ·exact mD hm h
 ·exact mD hl h
 ·exact mD hp h
theorem jT{w:World}{base k size n:Nat}{e:TypeId}{v:Value}{xs:List Value}(h:w.ownsRow base e size v n xs)(hk:RowOf v k):∃cs,Has w k e cs:=by
 rcases h.2 with⟨rfl,_⟩|⟨g,cap,cur,rfl,_,hh,_⟩
 ·simp[RowOf,Value.ownBlock]at hk
 ·obtain rfl:g=k:=by simpa [RowOf,Value.ownBlock]using hk
  exact⟨cur,hh⟩
structure pY(s:bQ):Prop where
 m:s.ms.length<=1000
 l:s.lg.length<=1000
 p:s.pins.length<=1000
def toldOf(s:bQ)(c:Int):kP:=if c=0 then s.t0 else if c=1 then s.t1 else s.t2
def jA(s:bQ)(a:kP):bQ:=if a.cl=0 then {s with t0:=a}else if a.cl=1 then {s with t1:=a}else{s with t2:=a}
def bn(s:bQ)(x:aG):Int:=
 if aT x≠0 then aT x else
 if x.k=1 then mX s x else
 if x.k=5 then (if cO s.ms x.n=true then 0 else 7)else
 if x.k=4 then (if x.at'<s.hz then 18 else 0)else
 if x.k=6 then oC s x.pin else
 if x.k=7 then 0 else
 if x.k=8 then (if x.said.req<(toldOf s x.said.cl).req then 18 else 0)else 11
def aP(s:bQ)(x:aG):bQ:=
 if bn s x≠0 then s else
 if x.k=1 then {s with ep:=x.ep,ms:=x.ms,fl:=x.fl,lg:=x.lg}else
 if x.k=5 then {s with lg:=kY s.lg x.n}else
 if x.k=4 then {s with hz:=x.at'}else
 if x.k=6 then jy s x.pin else
 if x.k=7 then {s with pins:=freed s.pins x.n,top:=max s.top x.n}else jA s x.said
def bY(w:World)(b:Nat)(F:Nat->Prop)(s:bQ)(x:aG)(e:Ending)(w':World):Prop:=
 ∃F',e=.returned (.int .i64 (bn s x))/\fH w' b F' (aP s x)/\jG w F F'/\Kept F w w'
theorem bY.bad{w w':World}{b:Nat}{F:Nat->Prop}{s:bQ}{x:aG}(hs:fH w b F s)(h0:bn s x≠0)(hk:Kept aj w w'):bY w b F s x (.returned (.int .i64 (bn s x))) w':=by refine⟨F,rfl,?_,jG.refl _ _,Kept.up hk⟩;unfold aP;rw[if_pos h0];exact hs.still hk
theorem XO(w:World)(b:Nat)(F:Nat->Prop)(s:bQ)(x:aG)(hs:fH w b F s)(h:iR w x)(h0:aT x≠0):
  Calls Tryz.prog 33 #[.pointer (some ⟨b,0,none⟩),fU x] w (bY w b F s x):=by
 have hE:bn s x=aT x:=by unfold bn;rw[if_pos h0]
 have hP:∀w',Kept aj w w'->bY w b F s x (.returned (.int .i64 (aT x))) w':=fun w' hk=>by have:=bY.bad hs (by rw[hE];exact h0) hk;rw[hE]at this;exact this
 obtain⟨mA,mc,lA,lc,pA,pc,hF,hb,hm,hl,hp⟩:=hs;have hck:=fun W (hW:Kept aj w W)=>fB W x (h.kept hW);have hnone:=fun W (hW:Kept aj w W)=>dZ W b s mA mc lA lc pA pc true (hb.kept hW (fun z=>z));obtain⟨E,hE0⟩:∃E,aT x=E:=⟨_,rfl⟩;rw[hE0]at hck hP h0;obtain⟨W0,hW0⟩:∃W0,w.alloc (.cells (aK x).toArray 78)=W0:=⟨_,rfl⟩;have hk0:Kept aj w W0:=by rw[<-hW0];(repeat'(first|(with_reducible first|exact ak|apply au|apply ay|apply aA|apply aB)|(right;simp;done)))
 have hn0:Has W0 w.heap.size 78 (aK x).toArray:=by rw[<-hW0];exact Has.new _ _ _
 clear hE hE0 h hm hl hp hb hF;obtain⟨k,n,at2,ep,xw,xx,ms,fl,lA2,xA,lg,oA,oc,⟨ji,gK,ops⟩,ts,⟨p1,p2,p3⟩,⟨s1,s2,s3,s4⟩⟩:=x;simp only[aK]at hP hn0 hck;have HP:=ah hP;have mY:=ah hck;have jK:=ah hnone;have bf:=ah hk0;have dW:=ah hn0;clear hP hck hnone hk0 hn0;have h0':(E !=0)=true:=by simpa using h0
 go_enter Tryz.func33,Tryz.ntmps33;go_wp2_with fail;clear hW0;refine(jK.out _ bf.out).mono ?_;rintro e w2 ⟨rfl,hk⟩;have hn2:=dW.out.kept hk (fun z=>z);have dV:=ah hn2;have HK:=ah (bf.out.then hk);clear hk hn2;go_wp2_with (refine wpList_load_row rfl 78 (.tmp 3) rfl w.heap.size rfl 78 _ (0,0) _ dV.out Tryz.underlying78 rfl (by kernel_rfl) ?_);refine(mY.out _ HK.out).mono ?_;rintro e w3 ⟨rfl,hk⟩;have bu:=ah (HK.out.then hk);clear hk HK;go_wp2;go_ret;exact HP.out _ bu.out
end Mst
end Go.Proofs.YtomccaocggplgaaGreat
namespace Go.Proofs.YtomccaocggplgaaGreat
open Go.RowKit Go.Shelf
namespace aJ
def FP(w:World)(g:Nat)(lb:Array Value)(l:List Mem)(p:Mem->Bool):Prop:=
 ∀W m,Kept aj w W->m∈l->Calls Tryz.prog g (#[jH m]++lb) W fun e w'=>e=.returned (.bool (p m))/\Kept aj W w'
theorem FP.kept{w w':World}{g:Nat}{lb:Array Value}{l:List Mem}{p:Mem->Bool}(h:FP w g lb l p)(hk:Kept aj w w'):FP w' g lb l p:=fun W m hW hm=>h W m (hk.then hW) hm
def yg(p:Mem->Bool)(l:List Mem):Bool:=l.any p
theorem XP(w:World)(A:Option Addr)(c:Nat)(l:List Mem)(p:Mem->Bool)(g:Nat)(lb:Array Value)(hl:Src w 2 A l.length (aU l))(hlen:l.length<=1000000)
  (eg:∀args w,(callFunc g args).run Tryz.prog w=.ok (.enter g args) w) (hp:FP w g lb l p):
  Calls Tryz.prog 184 #[.slice A l.length c,.func (.func g) #[] lb] w fun e w'=>(∃n:Int,e=.returned (.int .i64 n)/\(0<=n↔yg p l=true))/\Kept aj w w':=by
 have HL:=ah hl;clear hl;have HP:=ah hp;clear hp;go_enter Tryz.func184,Tryz.ntmps184;go_wp2_with fail;go_loopw [8] (fun v8 wr=>∃i:Nat,i<=l.length/\v8=.int .i64 i/\Kept aj w wr/\yg p l=yg p (l.drop i)) (fun v8 _=>l.length-(intOf v8).toNat)
 case atStart=>exact⟨0,Nat.zero_le _,rfl,Kept.refl _ _,rfl⟩
 case round=>
  obtain⟨i,hi,rfl,hk,he⟩:=hrel;have HK:=ah hk;clear hk;have HE:=ah he;clear he;by_cases hil:i<l.length
  ·obtain⟨m,hm⟩:∃m,l[i]? =some m:=⟨_,lB0 hil⟩;obtain⟨ad,hA,had,d0,d1⟩:=jr (HL.out.kept HK.out (fun _ _ x=>x)) (by omega) i m hm;subst hA;have hcall:=HP.out wr m HK.out (lC0 hm);have hs:yg p (l.drop i)=(p m||yg p (l.drop (i+1))):=by unfold yg;rw[drop_cons hm,List.any_cons]
   obtain⟨b,hb⟩:∃b,p m=b:=⟨_,rfl⟩;rw[hb]at hcall hs;have HS:=ah hs;clear hs hm hb;obtain⟨m1,m2⟩:=m;unfold jH at hcall;dsimp only at d0 d1 hcall;have HC:=ah hcall;clear hcall;cases b
   ·go_wp2_with fail;refine HC.out.mono ?_;rintro e w2 ⟨rfl,hk2⟩;have hk3:=HK.out.then hk2;have bu:=ah hk3;clear hk3 hk2;go_wp2;go_roundw
    case rel=>exact⟨i+1,by omega,by go_num,bu.out,by rw[HE.out,HS.out];rfl⟩
    case measure=>simp[intOf];omega
   ·go_wp2_with fail;refine HC.out.mono ?_;rintro e w2 ⟨rfl,hk2⟩;have hk3:=HK.out.then hk2;have bu:=ah hk3;clear hk3 hk2;go_wp2;go_ret;exact⟨⟨_,rfl,⟨fun _=>by rw[HE.out,HS.out];rfl,fun _=>by omega⟩⟩,bu.out⟩
  ·obtain rfl:i=l.length:=by omega
   go_wp2;go_ret;exact⟨⟨-1,rfl,⟨fun h=>by omega,fun h=>by rw[HE.out,List.drop_length]at h;cases h⟩⟩,HK.out⟩
theorem EC(w:World)(A:Option Addr)(c:Nat)(l:List Mem)(p:Mem->Bool)(g:Nat)(lb:Array Value)(hl:Src w 2 A l.length (aU l))(hlen:l.length<=1000000)
  (eg:∀args w,(callFunc g args).run Tryz.prog w=.ok (.enter g args) w) (hp:FP w g lb l p):
  Calls Tryz.prog 104 #[.slice A l.length c,.func (.func g) #[] lb] w fun e w'=>e=.returned (.bool (yg p l))/\Kept aj w w':=by
 have hi:=XP w A c l p g lb hl hlen eg hp;have HI:=ah hi;clear hi hl hp eg;obtain⟨b,hb⟩:∃b,yg p l=b:=⟨_,rfl⟩;rw[hb]at HI⊢;clear hb;go_enter Tryz.func104,Tryz.ntmps104;go_wp2_with fail;refine HI.out.mono ?_;rintro e w2 ⟨⟨n,rfl,hn⟩,hk⟩;have HN:=ah hn;clear hn;go_wp2;go_ret;refine⟨?_,hk⟩;have h:=HN.out;cases b
 ·have:decide (0<=n)=false:=by rw[decide_eq_false_iff_not];intro x;have:=h.1 x;cases this
  rw[<-this];rfl
 ·have:decide (0<=n)=true:=by rw[decide_eq_true_eq];exact h.2 rfl
  rw[<-this];rfl
theorem twin_any(W:World)(B:Nat)(m x:Mem)(hB:Has W B 56 #[.int .i64 m.1,.int .i64 m.2]):
  Calls Tryz.prog 103 #[jH x,.pointer (some ⟨B,0,none⟩)] W fun e w'=>e=.returned (.bool (decide (x.1=m.1)))/\Kept aj W w':=by
 have hlt:=hB.lt;have hne:B≠W.heap.size:=by omega
 obtain⟨x1,x2⟩:=x;obtain⟨m1,m2⟩:=m;have c0:∀o,(W.alloc o).cell? ⟨B,0,none⟩=some (.int .i64 m1):=fun o=>(hB.alloc o).cell 0;clear hB hlt;unfold jH;dsimp only;go_enter Tryz.func103,Tryz.ntmps103;go_wp2;go_ret;exact⟨by by_cases h:x1=m1<;>simp[h],(Kept.refl _ _).alloc _⟩
theorem afo:∀args w,(callFunc 103 args).run Tryz.prog w=.ok (.enter 103 args) w:=enters_of Tryz.func103 (by kernel_rfl) rfl
theorem one_any(w:World)(A:Option Addr)(c:Nat)(l:List Mem)(m:Mem)(hl:Src w 2 A l.length (aU l))(hlen:l.length<=1000000):
  Calls Tryz.prog 51 #[jH m,.slice A l.length c] w fun e w'=>e=.returned (.int .i64 (pF m l))/\Kept aj w w':=by
 have hone:pF m l=if m.1<0\/4<=m.1 then 1 else if m.2<1\/1073741824<m.2 then 5 else if yg (fun x=>decide (x.1=m.1)) l then 18 else 0:=rfl;have hnb:=Has.new w 56 #[.int .i64 m.1,.int .i64 m.2]
 have hco:=EC (w.alloc (.cells #[.int .i64 m.1,.int .i64 m.2] 56)) A c l (fun x=>decide (x.1=m.1)) 103 #[.pointer (some ⟨w.heap.size,0,none⟩)] (hl.kept ((Kept.refl aj w).alloc _) (fun _ _ x=>x)) hlen afo
  (fun W x hW _=>twin_any W w.heap.size m x (hnb.kept hW (fun x=>x)))
 obtain⟨b,hb⟩:∃b,yg (fun x=>decide (x.1=m.1)) l=b:=⟨_,rfl⟩;rw[hb]at hco hone;have qR:=ah hco;clear hco hnb hl hb;obtain⟨r,hr⟩:∃r,pF m l=r:=⟨_,rfl⟩;rw[hr]at hone⊢;clear hr;obtain⟨m1,m2⟩:=m;unfold jH;dsimp only at hone qR⊢;have wG:=ah hone;clear hone;by_cases g1:m1<0
 ·have h1:=wG.out;rw[if_pos (.inl g1)]at h1;subst h1;go_enter Tryz.func51,Tryz.ntmps51;go_wp2;go_ret;exact⟨rfl,(Kept.refl _ _).alloc _⟩
 by_cases g2:4<=m1
 ·have h1:=wG.out;rw[if_pos (.inr g2)]at h1;subst h1;go_enter Tryz.func51,Tryz.ntmps51;go_wp2;go_ret;exact⟨rfl,(Kept.refl _ _).alloc _⟩
 by_cases g3:m2<1
 ·have h1:=wG.out;rw[if_neg (by omega),if_pos (.inl g3)]at h1;subst h1;go_enter Tryz.func51,Tryz.ntmps51;go_wp2;go_ret;exact⟨rfl,(Kept.refl _ _).alloc _⟩
 by_cases g4:1073741824<m2
 ·have h1:=wG.out;rw[if_neg (by omega),if_pos (.inr g4)]at h1;subst h1;go_enter Tryz.func51,Tryz.ntmps51;go_wp2;go_ret;exact⟨rfl,(Kept.refl _ _).alloc _⟩
 have h1:=wG.out;rw[if_neg (by omega),if_neg (by omega)]at h1;cases b
 ·rw[if_neg (by decide)]at h1;subst h1;go_enter Tryz.func51,Tryz.ntmps51;go_wp2_with fail;refine qR.out.mono ?_;rintro e w2 ⟨rfl,hk⟩;go_wp2;go_ret;exact⟨rfl,((Kept.refl _ _).alloc _).then hk⟩
 ·rw[if_pos rfl]at h1;subst h1;go_enter Tryz.func51,Tryz.ntmps51;go_wp2_with fail;refine qR.out.mono ?_;rintro e w2 ⟨rfl,hk⟩;go_wp2;go_ret;exact⟨rfl,((Kept.refl _ _).alloc _).then hk⟩
theorem check_any(w:World)(ep fl:Int)(A:Option Addr)(c:Nat)(l:List Mem)(hl:Src w 2 A l.length (aU l))(hlen:l.length<=1000000)(hcap:l.length<=c)(hcm:c<=9223372036854775807):
  Calls Tryz.prog 17 #[nC ep A l.length c fl] w fun e w'=>e=.returned (.int .i64 (chk ep l))/\Kept aj w w':=by
 have HL:=ah hl;clear hl;obtain⟨r,hr⟩:∃r,chk ep l=r:=⟨_,rfl⟩;have HRR:=ah hr;rw[hr];clear hr;by_cases h1:ep<1
 ·have hr:r=5:=by rw[<-HRR.out];unfold chk;rw[if_pos (.inl h1)]
  subst hr;go_enter Tryz.func17,Tryz.ntmps17;go_wp2;go_ret;exact⟨rfl,(Kept.refl _ _).alloc _⟩
 by_cases h2:1073741824<ep
 ·have hr:r=5:=by rw[<-HRR.out];unfold chk;rw[if_pos (.inr h2)]
  subst hr;go_enter Tryz.func17,Tryz.ntmps17;go_wp2;go_ret;exact⟨rfl,(Kept.refl _ _).alloc _⟩
 by_cases h3:l.length=0
 ·have hr:r=7:=by rw[<-HRR.out];unfold chk;rw[if_neg (by omega),if_pos h3]
  subst hr;rw[h3];clear h3;go_enter Tryz.func17,Tryz.ntmps17;go_wp2;go_ret;exact⟨rfl,(Kept.refl _ _).alloc _⟩
 have h3':((l.length:Int)==0)=false:=by rw[beq_eq_false_iff_ne];omega
 by_cases h4:4<l.length
 ·have hr:r=6:=by rw[<-HRR.out];unfold chk;rw[if_neg (by omega),if_neg h3,if_pos h4]
  subst hr;have h4':(4:Int)<l.length:=by omega
  clear h3;go_enter Tryz.func17,Tryz.ntmps17;go_wp2;go_ret;exact⟨rfl,(Kept.refl _ _).alloc _⟩
 have hr:r=kH (l.take 0) (l.drop 0):=by rw[<-HRR.out];unfold chk;rw[if_neg (by omega),if_neg h3,if_neg h4];rfl
 have HR:=ah hr;clear hr;have h4':¬(4:Int)<l.length:=by omega
 have HN:=ah (Has.new w 25 #[.int .i64 ep,.slice A l.length c,.int .u64 fl]);clear h3 h4;go_enter Tryz.func17,Tryz.ntmps17;go_wp2_with fail;go_loopw [28] (fun v28 wr=>∃i:Nat,i<=l.length/\v28=.int .i64 i/\Has wr w.heap.size 25 #[.int .i64 ep,.slice A l.length c,.int .u64 fl]/\Kept aj w wr/\r=kH (l.take i) (l.drop i)) (fun v28 _=>l.length-(intOf v28).toNat)
 case atStart=>exact⟨0,Nat.zero_le _,rfl,HN.out,(Kept.refl _ _).alloc _,HR.out⟩
 case round=>
  obtain⟨i,hi,rfl,hh,hk,he⟩:=hrel;have hlt0:=hh.lt;have HH:=ah hh;clear hh;have HK:=ah hk;clear hk;have HE:=ah he;clear he;by_cases hil:i<l.length
  ·obtain⟨m,hm⟩:∃m,l[i]? =some m:=⟨_,lB0 hil⟩;obtain⟨ad,hA,had,d0,d1⟩:=jr (HL.out.kept HK.out (fun _ _ x=>x)) (by omega) i m hm;subst hA;obtain⟨wo,hwo⟩:∃wo:World,wo=wr:=⟨_,rfl⟩;subst hwo;have hic:i<=c:=by omega
   have abe:(l.take i).length=i:=by rw[List.length_take];omega
   have hone:=fun W (hW:Kept aj w W)=>one_any W (some ad) c (l.take i) m (by have h1:=(HL.out.kept hW (fun _ _ x=>x)).take (k:=i) (by omega);rw[AQ]at h1;rw[abe];exact h1) (by omega)
   rw[abe]at hone;have hm':=fun h=>Eg hm h;have abf:=fun h=>Eh hm h;obtain⟨r1,hr1⟩:∃r1,pF m (l.take i)=r1:=⟨_,rfl⟩;rw[hr1]at hone hm' abf;have wG:=ah hone;clear hone hm hr1;have gU:=ah hm';clear hm';have iT:=ah abf;clear abf;obtain⟨m1,m2⟩:=m;unfold jH at wG;dsimp only at d0 d1 wG;have e0:∀o,(wo.alloc o).cell? ⟨w.heap.size,1,none⟩=some (.slice (some ad) l.length c):=fun o=>(HH.out.alloc o).cell 1;clear abe;go_wp2_with fail;refine wp_region_still_tail 5 (by kernel_rfl) (by kernel_rfl) ?_;simp only[List.take_succ_cons,List.take_zero,List.drop_succ_cons,List.drop_zero];change wpStill _ _ (World.drew (wo.alloc _)) _ _ _;repeat still_step
   refine wpStill_nil ?_;change wpList _ _ _ _ _ (World.drew (wo.alloc _));go_wp2_with fail;refine(wG.out _ ((HK.out.alloc _).drew)).mono ?_;rintro e w3 ⟨rfl,hk3⟩;have hk4:=((HK.out.alloc _).drew).then hk3;have hh4:=((HH.out.alloc _).drew).kept hk3 (fun x=>x);have eY:=ah hk4;clear hk4 hk3;have HH4:=ah hh4;clear hh4;by_cases hz:r1=0
   ·have hs:r=kH (l.take (i+1)) (l.drop (i+1)):=by rw[HE.out,gU.out hz]
    have HS:=ah hs;clear hs;have hzb:(r1 !=0)=false:=by rw[hz];rfl
    have hzc:(r1==0)=true:=by rw[hz];rfl
    clear hz;go_wp2;go_roundw
    case rel=>exact⟨i+1,by omega,by go_num,HH4.out,eY.out,HS.out⟩
    case measure=>simp[intOf];omega
   ·have hs:r=r1:=by rw[HE.out,iT.out hz]
    subst hs;have hzb:(r !=0)=true:=by simpa using hz
    have hzc:(r==0)=false:=by simpa using hz
    clear hz;go_wp2;go_ret;exact⟨rfl,eY.out⟩
  ·obtain rfl:i=l.length:=by omega
   have hr:r=0:=by rw[HE.out,List.drop_length];rfl
   subst hr;go_wp2;go_ret;exact⟨rfl,HK.out⟩

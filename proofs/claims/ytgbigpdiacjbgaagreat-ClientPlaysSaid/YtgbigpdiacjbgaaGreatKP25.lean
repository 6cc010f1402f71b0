/- Part 26. -/
import Derived.Test.YtgbigpdiacjbgaaGreatKP24
set_option linter.unusedSimpArgs false
set_option linter.unusedVariables false
set_option maxHeartbeats 32000000
set_option maxRecDepth 100000
namespace Go.Proofs.YtgbigpdiacjbgaaGreat
open Go.RowKit
namespace bJ
open bg Ops fG Vn eP qh iI
def qj(s:ByteArray)(r:RS):O4×Int:=if(aN s 65536 r).2.2≠0 then (zy,(aN s 65536 r).2.2)else uj (aN s 65536 r).1
def lS(s:ByteArray)(r:RS):Batch×Int:=if(aN s 65536 r).2.2≠0 then (zero,(aN s 65536 r).2.2)else pq (aN s 65536 r).1
def uo(s:ByteArray)(r:RS):(Batch×Int)×Int:=if(aN s 65536 r).2.2≠0 then ((zero,0),(aN s 65536 r).2.2)else Ae (aN s 65536 r).1
def Ie(w:World)(g:Nat)(s:ByteArray)(r:RS)(e:Ending)(w':World):Prop:=
 ∃A c,e=.returned (.tuple #[zL (qj s r).1.ep A (qj s r).1.ms.length c (qj s r).1.fl,.int .i64 (qj s r).2])/\Src w' 2 A ((qj s r).1.ms).length (dL ((qj s r).1.ms))/\((qj s r).1.ms).length<=c/\c<=maxLen/\(∀ad,A=some ad->w.heap.size<=ad.block)/\iH w' g s (aN s 65536 r).2/\Kept (fun k=>k=g) w w'
theorem XV(w:World)(g:Nat)(s:ByteArray)(r:RS)(h:iH w g s r)(hs:s.size<=maxLen):
  Calls Tryz.prog 97 #[.pointer (some ⟨g,0,none⟩),.func (.func 98) #[] #[]] w (Ie w g s r):=by
 obtain⟨W0,hW0⟩:∃W0,(w.alloc (.cells #[.int .i64 0,.slice none 0 0,.int .u64 0] 57)).alloc (.cells #[.int .i64 0,.slice none 0 0,.int .u64 0] 57)=W0:=⟨_,rfl⟩;have hk0:Kept aj w W0:=by rw[<-hW0];(repeat'(first|(with_reducible first|exact ay|apply aA|apply aB|apply aC|apply aF)|(right;simp;done)))
 have hy0:Has W0 w.heap.size 57 #[.int .i64 0,.slice none 0 0,.int .u64 0]:=by rw[<-hW0];exact(Has.new _ _ _).alloc _
 have hz0:Has W0 (w.heap.size+1) 57 #[.int .i64 0,.slice none 0 0,.int .u64 0]:=by rw[<-hW0];exact Has.dQ _ _ _ (by rw[size_alloc])
 have h0:=h.kept hk0 (fun z=>z);have hgl:=h.1.lt;have htx:=qw W0 g s r 65536 h0 hs (by decide);have hsz:(aN s 65536 r).1.size<=maxLen:=Nat.le_trans (text_size _ _ _) hs;have hsp:qj s r=if(aN s 65536 r).2.2≠0 then (zy,(aN s 65536 r).2.2)else uj (aN s 65536 r).1:=rfl;unfold Ie;obtain⟨p,hp⟩:∃p,aN s 65536 r=p:=⟨_,rfl⟩;rw[hp]at htx hsz hsp⊢;obtain⟨tx,r2⟩:=p;dsimp only at htx hsz hsp⊢;obtain⟨y,hy⟩:∃y,w.heap.size=y:=⟨_,rfl⟩;rw[hy]at hy0 hz0;have Ea:=ah htx;have vU:=ah hy0;have HZ0:=ah hz0;have aS:=ah hk0;have vY:=ah hsp;have HG:=ah (And.intro hgl hy);clear htx hy0 hz0 hk0 hsp hgl h0 h hp;go_enter Tryz.func97,Tryz.ntmps97;go_wp2_with fail;clear hW0;refine Ea.out.mono ?_;rintro e w2 ⟨rfl,hr2,hk2⟩;have hy2:=vU.out.kept hk2 (fun e=>by have:=HG.out;omega);have hz2:=HZ0.out.kept hk2 (fun e=>by have:=HG.out;omega);have nR:=ah hy2;have HZ2:=ah hz2;have HR2:=ah hr2;have gJ:=ah (show Kept (fun k=>k=g) w w2 from(aS.out.mono (fun _ z=>z.elim)).trans hk2 (fun _ z=> .inl z));clear hy2 hz2 hr2 hk2 Ea vU HZ0 aS;go_wp2_with fail;refine(fU w2 g s r2 HR2.out).mono ?_;rintro e w3 ⟨rfl,rfl⟩;have Jl:w.heap.size<=y:=by have:=HG.out;omega
 have Dj:=ah Jl;clear Jl;have hky:∀W,Kept (fun k=>k=g) w W->∀a0 a1 a2,Kept (fun k=>k=g) w (((W.setCell ⟨y,0,none⟩ a0).setCell ⟨y,1,none⟩ a1).setCell ⟨y,2,none⟩ a2):=fun W hW a0 a1 a2=>(((hW.put (.inr Dj.out)).put (.inr Dj.out)).put (.inr Dj.out));have oO:∀(W:World) a0 a1 a2,Kept (fun k=>k=y) W (((W.setCell ⟨y,0,none⟩ a0).setCell ⟨y,1,none⟩ a1).setCell ⟨y,2,none⟩ a2):=fun W a0 a1 a2=>(Kept.put (F:=fun k=>k=y) (Kept.put (F:=fun k=>k=y) (Kept.put (F:=fun k=>k=y) (Kept.refl (fun k=>k=y) W) (.inl rfl)) (.inl rfl)) (.inl rfl));have mX:=ah hky;have AV:=ah oO;clear hky oO;obtain⟨at2,er⟩:=r2;dsimp only at vY⊢;by_cases he:er=0;rotate_left
 ·have he2:(er !=0)=true:=by simpa using he
  have hsp:=vY.out;rw[if_pos he]at hsp;have qT:=ah hsp;have HY:=ah nR.out;have y0:=HY.out.cell 0;have y1:=HY.out.cell 1;have y2:=HY.out.cell 2;have jY:=HY.out.frozen 0;have jZ:=HY.out.frozen 1;have ku:=HY.out.frozen 2;have z0:=HZ2.out.cell 0;have z1:=HZ2.out.cell 1;have z2:=HZ2.out.cell 2;simp at y0 y1 y2 z0 z1 z2;clear hsp he vY;go_wp2_with fail;refine bodyPost_ret (v:=.tuple #[.agg #[.int .i64 0,.slice none 0 0,.int .u64 0],.int .i64 er]) (by simp[results,Tryz.results97,go_sem,y0,y1,y2,jY,jZ,ku]) rfl ?_;refine⟨none,0,by rw[qT.out];rfl,by rw[qT.out];exact Src.nil _ _ _,by rw[qT.out];exact Nat.le_refl _,Nat.zero_le _,(fun ad e=>by cases e),HR2.out.kept (AV.out _ _ _ _) (fun e=>by have:=HG.out;omega),mX.out _ gJ.out _ _ _⟩
 subst he;have hsp:=vY.out;rw[if_neg (by simp)]at hsp;have qT:=ah hsp;clear hsp vY;have nZ:=XT w2 tx hsz;unfold yw at nZ;rw[<-qT.out]at nZ;obtain⟨q,hq⟩:∃q,qj s r=q:=⟨_,rfl⟩;rw[hq]at nZ;have HQ:=ah hq;clear qT hq;obtain⟨⟨ep,ms,fl⟩,er⟩:=q;dsimp only at nZ;obtain⟨n,hn⟩:∃n,ms.length=n:=⟨_,rfl⟩;rw[hn]at nZ;have HC:=ah nZ;have HN:=ah hn;clear nZ hn hsz;go_wp2_with fail;refine HC.out.mono ?_;rintro e w4 ⟨A,c,rfl,hsr,hc1,hc2,hnw,hk⟩;have hy4:=nR.out.kept hk (fun z=>z);have y0:=hy4.cell 0;have y1:=hy4.cell 1;have y2:=hy4.cell 2;have jY:=hy4.frozen 0;have jZ:=hy4.frozen 1;have ku:=hy4.frozen 2;simp at y0 y1 y2;have iU:=ah (gJ.out.trans hk (fun _ z=>z.elim));have hny:∀ad,A=some ad->ad.block≠y:=fun ad e h=>by have h1:=hnw ad e;have h2:=nR.out.lt;omega
 have wT:∀ad,A=some ad->w.heap.size<=ad.block:=fun ad e=>by have h1:=hnw ad e;have h2:=gJ.out.size;omega
 have D9:=ah hsr;have tZ:=ah (And.intro hc1 (And.intro hc2 (And.intro wT hny)));have HR4:=ah (HR2.out.kept hk (fun z=>z));clear hk hsr hc1 hc2 hnw hy4 hny wT;go_wp2_with fail;refine bodyPost_ret (v:=.tuple #[.agg #[.int .i64 ep,.slice A n c,.int .u64 fl],.int .i64 er]) (by simp[results,Tryz.results97,go_sem,y0,y1,y2,jY,jZ,ku]) rfl ?_;rw[HQ.out];dsimp only;rw[HN.out];refine⟨A,c,rfl,?_,tZ.out.1,tZ.out.2.1,tZ.out.2.2.1,HR4.out.kept (AV.out _ _ _ _) (fun e=>by have:=HG.out;omega),mX.out _ iU.out _ _ _⟩;exact D9.out.kept (AV.out _ _ _ _) (fun ad e h=>tZ.out.2.2.2 ad e h)
def Ig(w:World)(g:Nat)(s:ByteArray)(r:RS)(e:Ending)(w':World):Prop:=
 ∃A c,e=.returned (.tuple #[nT (lS s r).1 A c,.int .i64 (lS s r).2])/\Src w' 3 A ((lS s r).1.ops).length (cells ((lS s r).1.ops))/\((lS s r).1.ops).length<=c/\c<=maxLen/\(∀ad,A=some ad->w.heap.size<=ad.block)/\iH w' g s (aN s 65536 r).2/\Kept (fun k=>k=g) w w'
theorem XW(w:World)(g:Nat)(s:ByteArray)(r:RS)(h:iH w g s r)(hs:s.size<=maxLen):
  Calls Tryz.prog 99 #[.pointer (some ⟨g,0,none⟩),.func (.func 100) #[] #[]] w (Ig w g s r):=by
 obtain⟨W0,hW0⟩:∃W0,(w.alloc (.cells #[.int .i64 0,.int .i64 0,.slice none 0 0] 59)).alloc (.cells #[.int .i64 0,.int .i64 0,.slice none 0 0] 59)=W0:=⟨_,rfl⟩;have hk0:Kept aj w W0:=by rw[<-hW0];(repeat'(first|(with_reducible first|exact ay|apply aA|apply aB|apply aC|apply aF)|(right;simp;done)))
 have hy0:Has W0 w.heap.size 59 #[.int .i64 0,.int .i64 0,.slice none 0 0]:=by rw[<-hW0];exact(Has.new _ _ _).alloc _
 have hz0:Has W0 (w.heap.size+1) 59 #[.int .i64 0,.int .i64 0,.slice none 0 0]:=by rw[<-hW0];exact Has.dQ _ _ _ (by rw[size_alloc])
 have h0:=h.kept hk0 (fun z=>z);have hgl:=h.1.lt;have htx:=qw W0 g s r 65536 h0 hs (by decide);have hsz:(aN s 65536 r).1.size<=maxLen:=Nat.le_trans (text_size _ _ _) hs;have hsp:lS s r=if(aN s 65536 r).2.2≠0 then (zero,(aN s 65536 r).2.2)else pq (aN s 65536 r).1:=rfl;unfold Ig;obtain⟨p,hp⟩:∃p,aN s 65536 r=p:=⟨_,rfl⟩;rw[hp]at htx hsz hsp⊢;obtain⟨tx,r2⟩:=p;dsimp only at htx hsz hsp⊢;obtain⟨y,hy⟩:∃y,w.heap.size=y:=⟨_,rfl⟩;rw[hy]at hy0 hz0;have Ea:=ah htx;have vU:=ah hy0;have HZ0:=ah hz0;have aS:=ah hk0;have vY:=ah hsp;have HG:=ah (And.intro hgl hy);clear htx hy0 hz0 hk0 hsp hgl h0 h hp;go_enter Tryz.func99,Tryz.ntmps99;go_wp2_with fail;clear hW0;refine Ea.out.mono ?_;rintro e w2 ⟨rfl,hr2,hk2⟩;have hy2:=vU.out.kept hk2 (fun e=>by have:=HG.out;omega);have hz2:=HZ0.out.kept hk2 (fun e=>by have:=HG.out;omega);have nR:=ah hy2;have HZ2:=ah hz2;have HR2:=ah hr2;have gJ:=ah (show Kept (fun k=>k=g) w w2 from(aS.out.mono (fun _ z=>z.elim)).trans hk2 (fun _ z=> .inl z));clear hy2 hz2 hr2 hk2 Ea vU HZ0 aS;go_wp2_with fail;refine(fU w2 g s r2 HR2.out).mono ?_;rintro e w3 ⟨rfl,rfl⟩;have Jl:w.heap.size<=y:=by have:=HG.out;omega
 have Dj:=ah Jl;clear Jl;have hky:∀W,Kept (fun k=>k=g) w W->∀a0 a1 a2,Kept (fun k=>k=g) w (((W.setCell ⟨y,0,none⟩ a0).setCell ⟨y,1,none⟩ a1).setCell ⟨y,2,none⟩ a2):=fun W hW a0 a1 a2=>(((hW.put (.inr Dj.out)).put (.inr Dj.out)).put (.inr Dj.out));have oO:∀(W:World) a0 a1 a2,Kept (fun k=>k=y) W (((W.setCell ⟨y,0,none⟩ a0).setCell ⟨y,1,none⟩ a1).setCell ⟨y,2,none⟩ a2):=fun W a0 a1 a2=>(Kept.put (F:=fun k=>k=y) (Kept.put (F:=fun k=>k=y) (Kept.put (F:=fun k=>k=y) (Kept.refl (fun k=>k=y) W) (.inl rfl)) (.inl rfl)) (.inl rfl));have mX:=ah hky;have AV:=ah oO;clear hky oO;obtain⟨at2,er⟩:=r2;dsimp only at vY⊢;by_cases he:er=0;rotate_left
 ·have he2:(er !=0)=true:=by simpa using he
  have hsp:=vY.out;rw[if_pos he]at hsp;have qT:=ah hsp;have HY:=ah nR.out;have y0:=HY.out.cell 0;have y1:=HY.out.cell 1;have y2:=HY.out.cell 2;have jY:=HY.out.frozen 0;have jZ:=HY.out.frozen 1;have ku:=HY.out.frozen 2;have z0:=HZ2.out.cell 0;have z1:=HZ2.out.cell 1;have z2:=HZ2.out.cell 2;simp at y0 y1 y2 z0 z1 z2;clear hsp he vY;go_wp2_with fail;refine bodyPost_ret (v:=.tuple #[.agg #[.int .i64 0,.int .i64 0,.slice none 0 0],.int .i64 er]) (by simp[results,Tryz.results99,go_sem,y0,y1,y2,jY,jZ,ku]) rfl ?_;refine⟨none,0,by rw[qT.out];rfl,by rw[qT.out];exact Src.nil _ _ _,by rw[qT.out];exact Nat.le_refl _,Nat.zero_le _,(fun ad e=>by cases e),HR2.out.kept (AV.out _ _ _ _) (fun e=>by have:=HG.out;omega),mX.out _ gJ.out _ _ _⟩
 subst he;have hsp:=vY.out;rw[if_neg (by simp)]at hsp;have qT:=ah hsp;clear hsp vY;have nZ:=NQ w2 tx hsz;unfold vw at nZ;rw[<-qT.out]at nZ;obtain⟨q,hq⟩:∃q,lS s r=q:=⟨_,rfl⟩;rw[hq]at nZ;have HQ:=ah hq;clear qT hq;obtain⟨⟨cl,rq,ops⟩,er⟩:=q;unfold nT at nZ;dsimp only at nZ;obtain⟨n,hn⟩:∃n,ops.length=n:=⟨_,rfl⟩;rw[hn]at nZ;have HC:=ah nZ;have HN:=ah hn;clear nZ hn hsz;go_wp2_with fail;refine HC.out.mono ?_;rintro e w4 ⟨A,c,rfl,hsr,hc1,hc2,hnw,hk⟩;have hy4:=nR.out.kept hk (fun z=>z);have y0:=hy4.cell 0;have y1:=hy4.cell 1;have y2:=hy4.cell 2;have jY:=hy4.frozen 0;have jZ:=hy4.frozen 1;have ku:=hy4.frozen 2;simp at y0 y1 y2;have iU:=ah (gJ.out.trans hk (fun _ z=>z.elim));have hny:∀ad,A=some ad->ad.block≠y:=fun ad e h=>by have h1:=hnw ad e;have h2:=nR.out.lt;omega
 have wT:∀ad,A=some ad->w.heap.size<=ad.block:=fun ad e=>by have h1:=hnw ad e;have h2:=gJ.out.size;omega
 have D9:=ah hsr;have tZ:=ah (And.intro hc1 (And.intro hc2 (And.intro wT hny)));have HR4:=ah (HR2.out.kept hk (fun z=>z));clear hk hsr hc1 hc2 hnw hy4 hny wT;go_wp2_with fail;refine bodyPost_ret (v:=.tuple #[.agg #[.int .i64 cl,.int .i64 rq,.slice A n c],.int .i64 er]) (by simp[results,Tryz.results99,go_sem,y0,y1,y2,jY,jZ,ku]) rfl ?_;rw[HQ.out];unfold nT;dsimp only;rw[HN.out];refine⟨A,c,rfl,?_,tZ.out.1,tZ.out.2.1,tZ.out.2.2.1,HR4.out.kept (AV.out _ _ _ _) (fun e=>by have:=HG.out;omega),mX.out _ iU.out _ _ _⟩;exact D9.out.kept (AV.out _ _ _ _) (fun ad e h=>tZ.out.2.2.2 ad e h)
def Ih(w:World)(g:Nat)(s:ByteArray)(r:RS)(e:Ending)(w':World):Prop:=
 ∃A c,e=.returned (.tuple #[qh.Bf (uo s r).1.1 A c (uo s r).1.2,.int .i64 (uo s r).2])/\Src w' 3 A ((uo s r).1.1.ops).length (cells ((uo s r).1.1.ops))/\((uo s r).1.1.ops).length<=c/\c<=maxLen/\(∀ad,A=some ad->w.heap.size<=ad.block)/\iH w' g s (aN s 65536 r).2/\Kept (fun k=>k=g) w w'
theorem XX(w:World)(g:Nat)(s:ByteArray)(r:RS)(h:iH w g s r)(hs:s.size<=maxLen):
  Calls Tryz.prog 140 #[.pointer (some ⟨g,0,none⟩),.func (.func 141) #[] #[]] w (Ih w g s r):=by
 obtain⟨W0,hW0⟩:∃W0,(w.alloc (.cells #[.int .i64 0,.int .i64 0,.slice none 0 0,.int .u64 0] 183)).alloc (.cells #[.int .i64 0,.int .i64 0,.slice none 0 0,.int .u64 0] 183)=W0:=⟨_,rfl⟩;have hk0:Kept aj w W0:=by rw[<-hW0];(repeat'(first|(with_reducible first|exact ay|apply aA|apply aB|apply aC|apply aF)|(right;simp;done)))
 have hy0:Has W0 w.heap.size 183 #[.int .i64 0,.int .i64 0,.slice none 0 0,.int .u64 0]:=by rw[<-hW0];exact(Has.new _ _ _).alloc _
 have hz0:Has W0 (w.heap.size+1) 183 #[.int .i64 0,.int .i64 0,.slice none 0 0,.int .u64 0]:=by rw[<-hW0];exact Has.dQ _ _ _ (by rw[size_alloc])
 have h0:=h.kept hk0 (fun z=>z);have hgl:=h.1.lt;have htx:=qw W0 g s r 65536 h0 hs (by decide);have hsz:(aN s 65536 r).1.size<=maxLen:=Nat.le_trans (text_size _ _ _) hs;have hsp:uo s r=if(aN s 65536 r).2.2≠0 then ((zero,0),(aN s 65536 r).2.2)else Ae (aN s 65536 r).1:=rfl;unfold Ih;obtain⟨p,hp⟩:∃p,aN s 65536 r=p:=⟨_,rfl⟩;rw[hp]at htx hsz hsp⊢;obtain⟨tx,r2⟩:=p;dsimp only at htx hsz hsp⊢;obtain⟨y,hy⟩:∃y,w.heap.size=y:=⟨_,rfl⟩;rw[hy]at hy0 hz0;have Ea:=ah htx;have vU:=ah hy0;have HZ0:=ah hz0;have aS:=ah hk0;have vY:=ah hsp;have HG:=ah (And.intro hgl hy);clear htx hy0 hz0 hk0 hsp hgl h0 h hp;go_enter Tryz.func140,Tryz.ntmps140;go_wp2_with fail;clear hW0;refine Ea.out.mono ?_;rintro e w2 ⟨rfl,hr2,hk2⟩;have hy2:=vU.out.kept hk2 (fun e=>by have:=HG.out;omega);have hz2:=HZ0.out.kept hk2 (fun e=>by have:=HG.out;omega);have nR:=ah hy2;have HZ2:=ah hz2;have HR2:=ah hr2;have gJ:=ah (show Kept (fun k=>k=g) w w2 from(aS.out.mono (fun _ z=>z.elim)).trans hk2 (fun _ z=> .inl z));clear hy2 hz2 hr2 hk2 Ea vU HZ0 aS;go_wp2_with fail;refine(fU w2 g s r2 HR2.out).mono ?_;rintro e w3 ⟨rfl,rfl⟩;have Jl:w.heap.size<=y:=by have:=HG.out;omega
 have Dj:=ah Jl;clear Jl;have hky:∀W,Kept (fun k=>k=g) w W->∀a0 a1 a2 a3,Kept (fun k=>k=g) w ((((W.setCell ⟨y,0,none⟩ a0).setCell ⟨y,1,none⟩ a1).setCell ⟨y,2,none⟩ a2).setCell ⟨y,3,none⟩ a3):=fun W hW a0 a1 a2 a3=>((((hW.put (.inr Dj.out)).put (.inr Dj.out)).put (.inr Dj.out)).put (.inr Dj.out));have oO:∀(W:World) a0 a1 a2 a3,Kept (fun k=>k=y) W ((((W.setCell ⟨y,0,none⟩ a0).setCell ⟨y,1,none⟩ a1).setCell ⟨y,2,none⟩ a2).setCell ⟨y,3,none⟩ a3):=fun W a0 a1 a2 a3=>(Kept.put (F:=fun k=>k=y) (Kept.put (F:=fun k=>k=y) (Kept.put (F:=fun k=>k=y) (Kept.put (F:=fun k=>k=y) (Kept.refl (fun k=>k=y) W) (.inl rfl)) (.inl rfl)) (.inl rfl)) (.inl rfl));have mX:=ah hky;have AV:=ah oO;clear hky oO;obtain⟨at2,er⟩:=r2;dsimp only at vY⊢;by_cases he:er=0;rotate_left
 ·have he2:(er !=0)=true:=by simpa using he
  have hsp:=vY.out;rw[if_pos he]at hsp;have qT:=ah hsp;have HY:=ah nR.out;have y0:=HY.out.cell 0;have y1:=HY.out.cell 1;have y2:=HY.out.cell 2;have y3:=HY.out.cell 3;have jY:=HY.out.frozen 0;have jZ:=HY.out.frozen 1;have ku:=HY.out.frozen 2;have Af:=HY.out.frozen 3;have z0:=HZ2.out.cell 0;have z1:=HZ2.out.cell 1;have z2:=HZ2.out.cell 2;have z3:=HZ2.out.cell 3;simp at y0 y1 y2 y3 z0 z1 z2 z3;clear hsp he vY;go_wp2_with fail;refine bodyPost_ret (v:=.tuple #[.agg #[.int .i64 0,.int .i64 0,.slice none 0 0,.int .u64 0],.int .i64 er]) (by simp[results,Tryz.results140,go_sem,y0,y1,y2,y3,jY,jZ,ku,Af]) rfl ?_;refine⟨none,0,by rw[qT.out];rfl,by rw[qT.out];exact Src.nil _ _ _,by rw[qT.out];exact Nat.le_refl _,Nat.zero_le _,(fun ad e=>by cases e),HR2.out.kept (AV.out _ _ _ _ _) (fun e=>by have:=HG.out;omega),mX.out _ gJ.out _ _ _ _⟩
 subst he;have hsp:=vY.out;rw[if_neg (by simp)]at hsp;have qT:=ah hsp;clear hsp vY;have nZ:=XU w2 tx hsz;unfold yx at nZ;rw[<-qT.out]at nZ;obtain⟨q,hq⟩:∃q,uo s r=q:=⟨_,rfl⟩;rw[hq]at nZ;have HQ:=ah hq;clear qT hq;obtain⟨⟨⟨cl,rq,ops⟩,ts⟩,er⟩:=q;unfold qh.Bf at nZ;dsimp only at nZ;obtain⟨n,hn⟩:∃n,ops.length=n:=⟨_,rfl⟩;rw[hn]at nZ;have HC:=ah nZ;have HN:=ah hn;clear nZ hn hsz;go_wp2_with fail;refine HC.out.mono ?_;rintro e w4 ⟨A,c,rfl,hsr,hc1,hc2,hnw,hk⟩;have hy4:=nR.out.kept hk (fun z=>z);have y0:=hy4.cell 0;have y1:=hy4.cell 1;have y2:=hy4.cell 2;have y3:=hy4.cell 3;have jY:=hy4.frozen 0;have jZ:=hy4.frozen 1;have ku:=hy4.frozen 2;have Af:=hy4.frozen 3;simp at y0 y1 y2 y3;have iU:=ah (gJ.out.trans hk (fun _ z=>z.elim));have hny:∀ad,A=some ad->ad.block≠y:=fun ad e h=>by have h1:=hnw ad e;have h2:=nR.out.lt;omega
 have wT:∀ad,A=some ad->w.heap.size<=ad.block:=fun ad e=>by have h1:=hnw ad e;have h2:=gJ.out.size;omega
 have D9:=ah hsr;have tZ:=ah (And.intro hc1 (And.intro hc2 (And.intro wT hny)));have HR4:=ah (HR2.out.kept hk (fun z=>z));clear hk hsr hc1 hc2 hnw hy4 hny wT;go_wp2_with fail;refine bodyPost_ret (v:=.tuple #[.agg #[.int .i64 cl,.int .i64 rq,.slice A n c,.int .u64 ts],.int .i64 er]) (by simp[results,Tryz.results140,go_sem,y0,y1,y2,y3,jY,jZ,ku,Af]) rfl ?_;rw[HQ.out];unfold qh.Bf;dsimp only;rw[HN.out];refine⟨A,c,rfl,?_,tZ.out.1,tZ.out.2.1,tZ.out.2.2.1,HR4.out.kept (AV.out _ _ _ _ _) (fun e=>by have:=HG.out;omega),mX.out _ iU.out _ _ _ _⟩;exact D9.out.kept (AV.out _ _ _ _ _) (fun ad e h=>tZ.out.2.2.2 ad e h)
end bJ
namespace bJ
open bg Ops fG Vn eP qh iI
theorem Le:Elem Tryz.prog 60 183 4 48:=by obtain⟨i0,hi,hz0,hz1,hz2⟩:=info_parts (show(Tryz.prog.info? 183).map (fun i=>(i.zero,i.size,i.bytes))=some (some (.agg #[.int .i64 0,.int .i64 0,.slice none 0 0,.int .u64 0]),4,48) by kernel_rfl);exact⟨Tryz.underlying60,⟨i0,_,hi,hz0,hz1,hz2,rfl⟩,by decide⟩
def Ah(y:iM):iM:={y with A:=none,c:=0}
def Pg(b:Batch×Int):iM:=⟨b.1.cl,b.1.req,none,0,b.1.ops,b.2⟩
def dH(s:ByteArray):Nat->RS->List iM×RS×Int
 |0,r=>([],r,0)
 |k+1,r=>if(dH s k r).2.2≠0 then dH s k r
   else if(uo s (dH s k r).2.1).2≠0 then ([],(aN s 65536 (dH s k r).2.1).2,(uo s (dH s k r).2.1).2)
   else((dH s k r).1++[Pg (uo s (dH s k r).2.1).1],(aN s 65536 (dH s k r).2.1).2,0)
theorem GR(s:ByteArray)(r:RS){i:Nat}(h:(dH s i r).2.2≠0):∀k,dH s (i+k) r=dH s i r:=by
 intro k;induction k with
 |zero=>rfl
 |succ k ih=>
  show dH s ((i+k)+1) r=_;rw[dH,ih,if_pos h]
theorem Jm(s:ByteArray)(r:RS):∀k,(dH s k r).1.length<=k:=by
 intro k;induction k with
 |zero=>exact Nat.le_refl _
 |succ k ih=>
  rw[dH];split
  ·omega
  split
  ·exact Nat.zero_le _
  ·rw[lA0];simp;exact ih
theorem NT(s:ByteArray)(r:RS):(bD s r).1<18446744073709551616:=by
 unfold bD;split
 ·show(0:Nat)<_;decide
 ·split
  ·rename_i n j hg;obtain⟨p1,p2,p3,p4⟩:=BD hg;exact p3
  ·show(0:Nat)<_;decide
theorem SI(s:ByteArray)(r:RS):0<=(uo s r).1.2/\(uo s r).1.2<=aY:=by
 have z:(0:Int)<=0/\(0:Int)<=aY:=by unfold aY;decide
 unfold uo;split
 ·exact z
 unfold Ae;dsimp only;split
 ·exact z
 split
 ·exact z
 ·have:=NT (aN s 65536 r).1 (0,0);unfold aY;dsimp only;omega
def lu(w:World)(B:Nat)(l:List iM):Prop:=∀y∈l,Src w 3 y.A y.ops.length (cells y.ops)/\y.ops.length<=y.c/\(∀ad,y.A=some ad->B<=ad.block)/\0<=y.ts/\y.ts<=aY
theorem lu.kept{w w':World}{B:Nat}{l:List iM}{F:Nat->Prop}(h:lu w B l)(hk:Kept F w w')(hF:∀k,F k->k<B):lu w' B l:=fun y hy=>by obtain⟨h1,h2,h3,h4⟩:=h y hy;exact⟨h1.kept hk (fun ad e hf=>by have:=h3 ad e;have:=hF _ hf;omega),h2,h3,h4⟩
theorem Kept.Lh{F:Nat->Prop}{a b:World}(h:Kept aj a b):Kept F a b:=h.mono (fun _ z=>z.elim)
theorem Src.WZ{w w':World}{size m:Nat}{A:Option Addr}{news:List Value}{F:Nat->Prop}(h:Src w size A m news)(hk:Kept F w w')(hf:0<m->∀ad,A=some ad->¬F ad.block):Src w' size A m news:=by
 by_cases h0:0<m
 ·exact h.kept hk (hf h0)
 ·exact⟨h.1,fun hp=>absurd hp h0⟩
def Ph(A:Option Addr)(n c:Nat)(l:List iM):Prop:=∀y∈l,0<y.ops.length->∀ad,y.A=some ad->(Value.slice A n c).ownBlock≠some ad.block
theorem lu.kept2{w w':World}{B:Nat}{l:List iM}{F:Nat->Prop}(h:lu w B l)(hk:Kept F w w')(hF:∀y∈l,0<y.ops.length->∀ad,y.A=some ad->¬F ad.block):lu w' B l:=fun y hy=>by obtain⟨h1,h2,h3,h4⟩:=h y hy;exact⟨Src.WZ h1 hk (hF y hy),h2,h3,h4⟩
def NU(w:World)(g:Nat)(s:ByteArray)(r:RS)(n:Nat)(e:Ending)(w':World):Prop:=
 ∃A c l',e=.returned (.tuple #[.slice A (List.length l') c,.int .i64 (dH s n r).2.2])/\l'.map Ah=(dH s n r).1/\Src w' 4 A l'.length (kM l')/\l'.length<=c/\(∀ad,A=some ad->w.heap.size<=ad.block)/\lu w' w.heap.size l'/\iH w' g s (dH s n r).2.1/\Kept (fun k=>k=g) w w'
theorem Np(w:World)(g:Nat)(s:ByteArray)(r:RS)(h:iH w g s r)(hs:s.size<=maxLen):
  Calls Tryz.prog 101 #[.pointer (some ⟨g,0,none⟩)] w (NU w g s (aG s 4 r).2 (aG s 4 r).1):=by
 have hnum:=oZ w g s r 4 h hs (by decide);have hn4:=jG s 4 r;have hgl:=h.1.lt;obtain⟨q,hq⟩:∃q,aG s 4 r=q:=⟨_,rfl⟩;rw[hq]at hnum hn4⊢;obtain⟨n,r3⟩:=q;dsimp only at hnum hn4⊢;have uq:=ah hnum;have Lj:=ah hgl;clear hnum hgl h hq;go_enter Tryz.func101,Tryz.ntmps101;go_wp2_with fail;refine uq.out.mono ?_;rintro e w2 ⟨rfl,hr2,hk2⟩;have HR2:=ah hr2;have gJ:=ah hk2;clear hr2 hk2 uq;go_wp2_with fail;go_loopw [4,9] (fun v4 v9 wr=>∃(i:Nat) (A:Option Addr) (c:Nat) (l':List iM),i<=n/\v9=.int .i64 i/\v4=.slice A l'.length c/\(dH s i r3).2.2=0/\l'.map Ah=(dH s i r3).1/\bV 183 4 w.heap.size wr A l'.length c (kM l')/\lu wr w.heap.size l'/\Ph A l'.length c l'/\iH wr g s (dH s i r3).2.1/\Kept (fun k=>k=g) w wr) (fun _ v9 _=>n-(intOf v9).toNat)
 case atStart=>exact⟨0,none,0,[],Nat.zero_le _,rfl,rfl,rfl,rfl,⟨⟨rfl,.inl ⟨rfl,rfl⟩⟩,fun k hk=>by simp[Value.ownBlock]at hk⟩,(fun y hy=>by cases hy),(fun y hy=>by cases hy),HR2.out,gJ.out⟩
 case round=>
  obtain⟨i,A,c,l',hi,rfl,rfl,he0,hl,hr,hes,hsp,hrd,hk⟩:=hrel;clear HR2 gJ;by_cases hin:i<n
  ·have FQ:=XX wr g s (dH s i r3).2.1 hrd hs;have hts:=SI s (dH s i r3).2.1;have hstep:dH s (i+1) r3=if(uo s (dH s i r3).2.1).2≠0 then ([],(aN s 65536 (dH s i r3).2.1).2,(uo s (dH s i r3).2.1).2)else((dH s i r3).1++[Pg (uo s (dH s i r3).2.1).1],(aN s 65536 (dH s i r3).2.1).2,0):=by rw[dH,if_neg (by rw[he0];decide)]
   have hll:=congrArg List.length hl;rw[List.length_map]at hll;have hl4:=Jm s r3 i;unfold Ih at FQ;obtain⟨r4,hr4⟩:∃r4,(dH s i r3).2.1=r4:=⟨_,rfl⟩;obtain⟨l0,hl0⟩:∃l0,(dH s i r3).1=l0:=⟨_,rfl⟩;rw[hr4]at FQ hts hstep;rw[hl0]at hstep hl;obtain⟨v,hv⟩:∃v,uo s r4=v:=⟨_,rfl⟩;rw[hv]at FQ hts hstep;obtain⟨⟨⟨cl,rq,ops⟩,ts⟩,er⟩:=v;unfold qh.Bf at FQ;dsimp only at FQ hts hstep;have Zq:=ah FQ;have Ai:=ah hts;have uM:=ah hstep;have HL:=ah hl;have HR:=ah hr;have SK:=ah hes;have HK:=ah hk;have iq:=ah hsp;have HLL:=ah (show l'.length<=4 by omega);clear FQ hts hstep hl hr hes hsp hk hll hl4 hr4 hl0 hv hrd he0;obtain⟨no,hno⟩:∃no,ops.length=no:=⟨_,rfl⟩;rw[hno]at Zq;have oP:=ah hno;clear hno;go_wp2_with fail;refine Zq.out.mono ?_;rintro e w5 ⟨A5,c5,rfl,hs5,hc5,-,tC,xN,hk5⟩;have hgw:∀k,k=g->k<w.heap.size:=fun k e=>by have:=Lj.out;omega
   have Ii:bV 183 4 w.heap.size w5 A l'.length c (kM l'):=⟨aP HR.out.1 hk5 (fun k hk e=>by have h1:=HR.out.2 k hk;have h2:=hgw k e;omega),HR.out.2⟩;have Eb:=ah Ii;have FT:=ah (SK.out.kept hk5 hgw);have Zr:=ah xN;have dK:=ah (HK.out.then hk5);have Zs:∀ad,A5=some ad->w.heap.size<=ad.block:=fun ad e=>by have h1:=tC ad e;have h2:=HK.out.size;omega
   have uX:=ah (And.intro hs5 (And.intro hc5 Zs));have hsn:∀ad,A5=some ad->(Value.slice A l'.length c).ownBlock≠some ad.block:=fun ad e hb=>by have h1:=tC ad e;have h2:=jB HR.out.1 hb;omega
   have hrz:∀k,(Value.slice A l'.length c).ownBlock=some k->k<w5.heap.size:=fun k hk=>jB Ii.1 hk;have nI:=ah hsn;have HRZ:=ah hrz;clear hsn hrz Ii xN hs5 hc5 tC Zs hk5 HR SK HK hgw;obtain⟨W6,pZ⟩:∃W6,w5.alloc (.cells #[.int .i64 cl,.int .i64 rq,.slice A5 no c5,.int .u64 ts] 183)=W6:=⟨_,rfl⟩;have hk6:Kept aj w5 W6:=by rw[<-pZ];(repeat'(first|(with_reducible first|exact ay|apply aA|apply aB|apply aC|apply aF)|(right;simp;done)))
   have hb6:Has W6 w5.heap.size 183 #[.int .i64 cl,.int .i64 rq,.slice A5 no c5,.int .u64 ts]:=by rw[<-pZ];exact Has.new _ _ _
   have b0:=hb6.cell 0;have b1:=hb6.cell 1;have b2:=hb6.cell 2;have b3:=hb6.cell 3;simp at b0 b1 b2 b3;have eu:=ah hk6;clear hk6 hb6;by_cases he:er=0;rotate_left
   ·have he2:(er !=0)=true:=by simpa using he
    have hst:=uM.out;rw[if_pos he]at hst;have hstop:=GR s r3 (i:=i+1) (by rw[hst];exact he) (n-(i+1));rw[show i+1+(n-(i+1))=n by omega,hst]at hstop;have HST:=ah hstop;clear hst hstop he b0 b1 b2 b3;go_wp2_with fail;clear pZ;go_ret2;refine⟨none,0,[],by rw[HST.out];rfl,by rw[HST.out];rfl,Src.nil _ _ _,Nat.le_refl _,(fun ad e=>by cases e),(fun y hy=>by cases hy),by rw[HST.out];exact Zr.out.kept eu.out (fun z=>z),dK.out.trans eu.out (fun _ z=>z.elim)⟩
   subst he;have hst:=uM.out;rw[if_neg (by simp)]at hst;have HST:=ah hst;clear hst uM;have kY:Hid (l'.length+1<=maxLen):=ah (by have:=HLL.out;unfold maxLen;omega);have kR:Hid ((l'.length+1)*48<=140737488355328):=ah (by have:=HLL.out;omega);go_wp2_with (at_builtin;refine bH Le (.tmp 19) (.tmp 21) rfl rfl (Value.slice A l'.length c) rfl (aP (aP Eb.out.1 eu.out (fun _ _ x=>x)) (F:=aj) (by(repeat'(first|(with_reducible first|exact ay|apply aA|apply aB|apply aC|apply aF)|(right;simp;done)))) (fun _ _ x=>x)) 1 rfl (Src.kW (t:=183) (size:=4) (m:=1) (cs:=#[.int .i64 cl,.int .i64 rq,.slice A5 no c5,.int .u64 ts]) (by(repeat (with_reducible first|exact Has.dQ _ _ _ (by simp)|apply Has.drew|apply Has.drewN|apply Has.alloc|(apply Has.past<;>(try omega))))) rfl) (by intro u hu;simp at hu;rcases hu with rfl|rfl|rfl|rfl<;>rfl) kY.out kR.out ?_;intro A7 c7 w7 SL SN SQ;have Zt:=ah SL;have Zu:=ah SN;have GU:=ah SQ;clear SL SN SQ);go_roundw
   case measure=>simp[intOf];omega
   case rel=>
    have hlen:(l'++[(⟨cl,rq,A5,c5,ops,ts⟩:iM)]).length=l'.length+1:=by simp
    have Pj:Kept (fun k=>(Value.slice A l'.length c).ownBlock=some k) w5 w7:=Kept.grownBy (by(repeat'(first|(with_reducible first|exact ay|apply aA|apply aB|apply aC|apply aF)|(exact eu.out.mono (fun _ z=>z.elim))|(right;simp;done)))) Zu.out (fun k hk=> .inl hk);have acr:=eu.out.size;have hB:w.heap.size<=W6.heap.size:=by have:=dK.out.size;omega
    have hnw:bV 183 4 w.heap.size w7 A7 (l'.length+1) c7 (kM l'++zn ⟨cl,rq,A5,c5,ops,ts⟩):=by
     have h0:=Zt.out;have hec:zn ⟨cl,rq,A5,c5,ops,ts⟩=[.int .i64 cl,.int .i64 rq,.slice A5 no c5,.int .u64 ts]:=by unfold zn;rw[oP.out]
     rw[hec];exact bV.snoc Eb.out (Nat.le_trans hB (by simp[size_alloc])) h0 GU.out
    have hgg:∀ad:Addr,(Value.slice A l'.length c).ownBlock≠some g:=fun ad e=>by have h1:=Eb.out.2 g e;have h2:=Lj.out;omega
    refine⟨i+1,A7,c7,l'++[⟨cl,rq,A5,c5,ops,ts⟩],by omega,by go_num,by rw[hlen],by rw[HST.out],?_,by rw[hlen,EV];exact hnw,?_,?_,?_,?_⟩
    ·rw[HST.out,List.map_append,HL.out];rfl
    ·intro y hy;rcases List.mem_append.1 hy with hy|hy
     ·exact(FT.out.kept2 Pj (fun y hy hp ad e hb=>iq.out y hy hp ad e hb)) y hy
     ·rw[List.mem_singleton.1 hy];exact⟨by dsimp only;rw[oP.out];exact uX.out.1.kept Pj (fun ad e hb=>nI.out ad e hb),by have:=uX.out.2.1;have:=oP.out;dsimp only;omega,uX.out.2.2,Ai.out⟩
    ·intro y hy hp ad e hb;rw[hlen]at hb;rcases List.mem_append.1 hy with hy|hy
     ·rcases GU.out with h1|h1
      ·exact iq.out y hy hp ad e (h1.symm.trans hb)
      ·have h2:=h1.symm.trans hb;injection h2 with h2;obtain⟨Xa,e2,h3,_⟩:=(FT.out y hy).1.2 hp;rw[e]at e2;injection e2 with e2;subst e2;simp[size_alloc]at h2;omega
     ·rw[List.mem_singleton.1 hy]at e hp;rcases GU.out with h1|h1
      ·exact nI.out ad e (h1.symm.trans hb)
      ·have h2:=h1.symm.trans hb;injection h2 with h2;have hp':0<ops.length:=hp;rw[oP.out]at hp';have h0:=uX.out.1;obtain⟨Xa,e2,h3,_⟩:=h0.2 hp';have e':A5=some ad:=e;rw[e']at e2;injection e2 with e2;subst e2;simp[size_alloc]at h2;omega
    ·rw[HST.out];exact Zr.out.kept Pj (hgg ⟨0,0,none⟩)
    ·exact dK.out.trans Pj (fun k hk=> .inr (Eb.out.2 k hk))
  ·obtain rfl:i=n:=by omega
   have HK:=ah hk;go_wp2_with fail;go_ret2;exact⟨A,c,l',by rw[he0];rfl,hl,Src.fA hr.1,(mM hr.1).1,oQ hr,hes,hrd,HK.out⟩

/- Part 18 of what the proof needs. -/
import Derived.Test.YtolkgbafebehfaaGreatZP15
import Derived.Test.YtolkgbafebehfaaGreatZP16
set_option linter.unusedSimpArgs false
set_option linter.unusedVariables false
set_option maxHeartbeats 32000000
set_option maxRecDepth 100000
namespace Go.Proofs.YtolkgbafebehfaaGreat
open Go.RowKit Go.Shelf Go.Maps
set_option maxRecDepth 100000
namespace aP
theorem Zr(w:World)(m:Mem):
  Calls Tryz.prog 346 #[iJ m] w fun e w'=>e=.returned (.bool (decide (chk 1 [m]=0)))/\Kept aj w w':=by
 have hck:=fun(W:World) (g:Nat) (h:Has W g 53 #[.int .i64 m.1,.int .i64 m.2])=>check_any W 1 0 (some ⟨g,0,none⟩) 1 [m] (Src.bW (m:=1) h rfl) (by simp) (by simp) (by decide)
 obtain⟨r,hr⟩:∃r,chk 1 [m]=r:=⟨_,rfl⟩
 rw[hr]at hck⊢
 clear hr
 have HC:=ah hck;clear hck
 obtain⟨m1,m2⟩:=m
 unfold iJ
 dsimp only at HC⊢
 by_cases hz:r=0
 ·have hb:(r==0)=true:=by simpa using hz
  have hd:decide (r=0)=true:=by simpa using hz
  rw[hd]
  clear hz hd
  go_enter Tryz.func346,Tryz.ntmps346
  go_wp2_with fail
  refine(HC.out _ _ (Has.bP _ _ _ (by simp))).mono ?_
  rintro e w2 ⟨rfl,hk⟩
  have hk2:=(((Kept.refl aj w).alloc _).alloc _).then hk
  have HK:=ah hk2;clear hk2 hk
  go_wp2
  go_ret
  exact⟨rfl,HK.out⟩
 ·have hb:(r==0)=false:=by simpa using hz
  have hd:decide (r=0)=false:=by simpa using hz
  rw[hd]
  clear hz hd
  go_enter Tryz.func346,Tryz.ntmps346
  go_wp2_with fail
  refine(HC.out _ _ (Has.bP _ _ _ (by simp))).mono ?_
  rintro e w2 ⟨rfl,hk⟩
  have hk2:=(((Kept.refl aj w).alloc _).alloc _).then hk
  have HK:=ah hk2;clear hk2 hk
  go_wp2
  go_ret
  exact⟨rfl,HK.out⟩
theorem RH(W:World)(B:Nat)(m x:Mem)(hB:Has W B 53 #[.int .i64 m.1,.int .i64 m.2]):
  Calls Tryz.prog 345 #[iJ x,.pointer (some ⟨B,0,none⟩)] W fun e w'=>e=.returned (.bool (decide (x.1=m.1)))/\Kept aj W w':=by
 have hlt:=hB.lt
 have hne:B≠W.heap.size:=by omega
 obtain⟨x1,x2⟩:=x
 obtain⟨m1,m2⟩:=m
 have c0:∀o,(W.alloc o).cell? ⟨B,0,none⟩=some (.int .i64 m1):=fun o=>(hB.alloc o).cell 0
 clear hB hlt
 unfold iJ
 dsimp only
 go_enter Tryz.func345,Tryz.ntmps345
 go_wp2
 go_ret
 exact⟨by by_cases h:x1=m1<;>simp[h],(Kept.refl _ _).alloc _⟩
theorem Zs:∀args w,(callFunc 345 args).run Tryz.prog w=.ok (.enter 345 args) w:=enters_of Tryz.func345 (by kernel_rfl) rfl
def RowOf(v:Value)(k:Nat):Prop:=v.ownBlock=some k
theorem V4(b:Nat)(w:World)(A A3:Option Addr)(n0 c0 c3:Nat)(l j:List Mem)(hrow:bT b w A n0 c0 l)(hb:b<=w.heap.size)(hj:Src w 2 A3 j.length (aS j))(hjr:0<j.length->∀ad,A3=some ad->¬RowOf (.slice A n0 c0) ad.block)
  (hl:l.length<=1000) (hjl:j.length<=1000):
  Calls Tryz.prog 257 #[.slice A n0 c0,.slice A3 j.length c3] w fun e w'=>(∃O n oc,e=.returned (.slice O n oc)/\bT b w' O n oc (dV l j))/\Kept (RowOf (.slice A n0 c0)) w w':=by
 have Ji:∀i,(dV l (j.take i)).length<=2000:=by
  intro i
  have h1:∀(a:List Mem) (b:List Mem),(dV b a).length<=b.length+a.length:=by
   intro a
   induction a with
   |nil=>intro b;simp[dV]
   |cons x a ih=>
    intro b
    have h2:=ih (iY b x)
    have h3:(iY b x).length<=b.length+1:=by unfold iY;split<;>simp
    have h4:dV b (x::a)=dV (iY b x) a:=rfl
    rw[h4,List.length_cons]
    omega
  have h2:=h1 (j.take i) l
  have h3:=List.length_take_le' i j
  exact Nat.le_trans h2 (by clear h1;omega)
 have HJL:=ah Ji;clear Ji
 have HJ:=ah hj;clear hj
 have HJR:=ah hjr;clear hjr
 have abY:=ah hrow;clear hrow
 go_enter Tryz.func257,Tryz.ntmps257
 go_wp2_with fail
 go_loopw [0,10] (fun v0 v10 wr=>∃(i:Nat) (O:Option Addr) (n oc:Nat),i<=j.length/\v10=.int .i64 i/\v0=.slice O n oc/\bT b wr O n oc (dV l (j.take i))/\(∀k,RowOf (.slice O n oc) k->RowOf (.slice A n0 c0) k\/w.heap.size<=k)/\Kept (RowOf (.slice A n0 c0)) w wr) (fun _ v10 _=>j.length-(intOf v10).toNat)
 case atStart=>exact⟨0,A,n0,c0,Nat.zero_le _,rfl,rfl,abY.out,(fun k h=> .inl h),Kept.refl _ _⟩
 case round=>
  obtain⟨i,O,n,oc,hi,rfl,rfl,hrow,hro,hk⟩:=hrel
  have hsz:=hk.size
  have Yk:=HJL.out i
  obtain⟨Y,hY⟩:∃Y,dV l (j.take i)=Y:=⟨_,rfl⟩
  rw[hY]at hrow Yk
  have RJ:=hrow.1
  rw[<-RJ]at Yk
  have iI:=ah hrow;clear hrow
  have RN:=ah hro;clear hro
  have HK:=ah hk;clear hk
  by_cases hil:i<j.length
  ·obtain⟨m,hm⟩:∃m,j[i]? =some m:=⟨_,List.getElem?_eq_getElem hil⟩
   obtain⟨ad,hA,had,d0,d1⟩:=ig (HJ.out.kept HK.out (HJR.out (by omega))) (by omega) i m hm
   subst hA
   obtain⟨wo,hwo⟩:∃wo:World,wo=wr:=⟨_,rfl⟩
   subst hwo
   have hjs:dV l (j.take (i+1))=iY Y m:=by rw[take_snoc hm,IP,hY]
   have hjo:iY Y m=if n<4/\chk 1 [m]=0/\uP (fun x=>decide (x.1=m.1)) Y=false then Y++[m]else Y:=by rw[RJ];rfl
   rw[hjo]at hjs
   clear hjo hY
   have hmay:=fun W=>Zr W m
   have hnm:=Has.new wo 53 #[.int .i64 m.1,.int .i64 m.2]
   have hco:=fun W (hW:Kept aj (wo.alloc (.cells #[.int .i64 m.1,.int .i64 m.2] 53)) W)=>Au W O oc Y (fun x=>decide (x.1=m.1)) 345 #[.pointer (some ⟨wo.heap.size,0,none⟩)] ((iI.out.kept (((Kept.refl aj wo).alloc _).then hW)).src) (by omega) Zs
    (fun W' x hW' _=>RH W' wo.heap.size m x (hnm.kept (hW.then hW') (fun x=>x)))
   rw[<-RJ]at hco
   obtain⟨tb,htb⟩:∃tb,uP (fun x=>decide (x.1=m.1)) Y=tb:=⟨_,rfl⟩
   obtain⟨ck,hck⟩:∃ck,chk 1 [m]=ck:=⟨_,rfl⟩
   rw[htb]at hco hjs
   rw[hck]at hmay hjs
   clear htb hck hm RJ
   have Aw:=ah hmay;clear hmay
   have uD:=ah hco;clear hco
   have Yl:=ah hjs;clear hjs
   have Nz:=ah hnm;clear hnm
   obtain⟨m1,m2⟩:=m
   dsimp only at d0 d1 Aw uD Nz
   unfold iJ at Aw
   dsimp only at Aw
   by_cases h4:n<4
   rotate_left
   ·have hjn:dV l (j.take (i+1))=Y:=by rw[Yl.out,if_neg (fun h=>h4 h.1)]
    have Jj:=ah hjn;clear hjn
    have h4':¬(n:Int)<4:=by omega
    go_wp2
    go_roundw
    case rel=>exact⟨i+1,O,n,oc,by omega,by go_num,rfl,by rw[Jj.out];exact iI.out.kept ((Kept.refl _ _).alloc _),RN.out,HK.out.alloc _⟩
    case measure=>simp[intOf];omega
   have h4':(n:Int)<4:=by omega
   by_cases hc:ck=0
   rotate_left
   ·have hjn:dV l (j.take (i+1))=Y:=by rw[Yl.out,if_neg (fun h=>hc h.2.1)]
    have Jj:=ah hjn;clear hjn
    have hd:decide (ck=0)=false:=by simpa using hc
    rw[hd]at Aw
    clear hd hc
    go_wp2_with fail
    refine(Aw.out _).mono ?_
    rintro e w2 ⟨rfl,hk2⟩
    have hk3:=(HK.out.alloc _).then (hk2.mono (fun i hi=>hi.elim))
    have hr3:=iI.out.kept (((Kept.refl _ _).alloc _).then hk2)
    have bf:=ah hk3;clear hk3 hk2
    have HR3:=ah hr3;clear hr3
    go_wp2
    go_roundw
    case rel=>exact⟨i+1,O,n,oc,by omega,by go_num,rfl,by rw[Jj.out];exact HR3.out,RN.out,bf.out⟩
    case measure=>simp[intOf];omega
   have hd:decide (ck=0)=true:=by simpa using hc
   rw[hd]at Aw
   clear hd
   cases tb
   rotate_left
   ·have hjn:dV l (j.take (i+1))=Y:=by rw[Yl.out,if_neg (fun h=>by cases h.2.2)]
    have Jj:=ah hjn;clear hjn hc
    go_wp2_with fail
    refine(Aw.out _).mono ?_
    rintro e w2 ⟨rfl,hk2⟩
    have aQ:=ah hk2;clear hk2
    go_wp2_with fail
    refine(uD.out _ aQ.out).mono ?_
    rintro e w3 ⟨rfl,hk2⟩
    have hk4:=((HK.out.alloc _).then (aQ.out.mono (fun i hi=>hi.elim))).then (hk2.mono (fun i hi=>hi.elim))
    have hr3:=iI.out.kept ((((Kept.refl _ _).alloc _).then aQ.out).then hk2)
    have bf:=ah hk4;clear hk4 hk2
    have HR3:=ah hr3;clear hr3
    go_wp2
    go_roundw
    case rel=>exact⟨i+1,O,n,oc,by omega,by go_num,rfl,by rw[Jj.out];exact HR3.out,RN.out,bf.out⟩
    case measure=>simp[intOf];omega
   have hjn:dV l (j.take (i+1))=Y++[(m1,m2)]:=by rw[Yl.out,if_pos ⟨h4,hc,rfl⟩]
   have Jj:=ah hjn;clear hjn hc
   have hS:Hid (n+1<=maxLen):=ah (by unfold maxLen;omega)
   have hS2:Hid ((n+1)*16<=140737488355328):=ah (by omega)
   go_wp2_with fail
   refine(Aw.out _).mono ?_
   rintro e w2 ⟨rfl,hk2⟩
   have aQ:=ah hk2;clear hk2
   go_wp2_with fail
   refine(uD.out _ aQ.out).mono ?_
   rintro e w3 ⟨rfl,hk2⟩
   have hk4:=((HK.out.alloc _).then (aQ.out.mono (fun i hi=>hi.elim))).then (hk2.mono (fun i hi=>hi.elim))
   have hr3:=iI.out.kept ((((Kept.refl _ _).alloc _).then aQ.out).then hk2)
   have nJ:=(Nz.out.kept aQ.out (fun x=>x)).kept hk2 (fun x=>x)
   have e0:w3.cell? ⟨wo.heap.size,0,none⟩=some (.int .i64 m1):=nJ.cell 0
   have e1:w3.cell? ⟨wo.heap.size,1,none⟩=some (.int .i64 m2):=nJ.cell 1
   have bf:=ah hk4;clear hk4 hk2 nJ
   have HR3:=ah hr3;clear hr3
   go_wp2_with (at_builtin;refine aI ng (.tmp 28) (.tmp 30) rfl rfl (Value.slice O n oc) rfl ((HR3.out.kept ((Kept.refl _ _).alloc _)).2.1) 1 rfl (Src.bW (m:=1) (cs:=#[.int .i64 m1,.int .i64 m2]) (Has.bP _ 53 _ (by simp)) rfl) (by intro u hu;simp at hu;rcases hu with rfl|rfl<;>rfl) hS.out hS2.out ?_;intro O3 zN w9 ho3 hg3 wF)
   have RG:=bf.out.size
   have hn3:bT b w9 O3 (n+1) zN (Y++[(m1,m2)]):=(HR3.out.kept ((Kept.refl _ _).alloc _)).snoc (by simp;omega) ho3 wF
   have hk9:Kept (RowOf (.slice A n0 c0)) w w9:=(bf.out.alloc _).grown hg3 (fun k hk=>RN.out k hk)
   have aaC:∀k,RowOf (.slice O3 (n+1) zN) k->RowOf (.slice A n0 c0) k\/w.heap.size<=k:=by
    intro k hk
    unfold RowOf at hk
    rcases wF with e|e
    ·exact RN.out k (e.symm.trans hk)
    ·rw[hk]at e
     injection e with e
     right
     simp at e
     omega
   rw[<-Jj.out]at hn3
   clear ho3 hg3 wF
   have kY:=ah hn3;clear hn3
   have qA:=ah hk9;clear hk9
   have acC:=ah aaC;clear aaC
   go_wp2
   go_roundw
   case rel=>exact⟨i+1,O3,n+1,zN,by omega,by go_num,rfl,kY.out,acC.out,qA.out⟩
   case measure=>simp[intOf];omega
  ·obtain rfl:i=j.length:=by omega
   rw[List.take_length]at hY
   have HY:=ah hY;clear hY RJ
   go_wp2
   go_ret
   exact⟨⟨O,n,oc,rfl,by rw[HY.out];exact iI.out⟩,HK.out⟩
theorem V5(w:World)(n:Nat)(hn:0<n)(hn2:n<=100000):
  Calls Tryz.prog 347 #[.slice none 0 0,.int .i64 n] w fun e w'=>(∃O oc,e=.returned (.slice O 0 oc)/\bT w.heap.size w' O 0 oc [])/\Kept aj w w':=by
 obtain⟨i0,hi,hz0,hz1,hz2⟩:=info_parts (show(Tryz.prog.info? 53).map (fun i=>(i.zero,i.size,i.bytes))=some (some (.agg #[.int .i64 0,.int .i64 0]),2,16) by kernel_rfl)
 have hG:=grownCap_ge w (0+n) 0 53
 have hG2:=grownCap_le_maxLen w (0+n) 0 53 (by unfold maxLen;omega)
 have hrz:∀ty,(Builtin.append_ #[22,3] ty #[.slice none 0 0,.int .i64 n]).run Tryz.prog w=
   .ok (.slice (some ⟨w.heap.size,0,none⟩) n (grownCap w (0+n) 0 53)) (w.drew.alloc (.cells (#[]++Builtin.zeroCells #[.int .i64 0,.int .i64 0] n++Builtin.zeroCells #[.int .i64 0,.int .i64 0] (grownCap w (0+n) 0 53-(0+n))) 53)):=fun ty=>by
  have h:=Lib.run_append_grow_zeros w 22 3 ty 53 i0 (.agg #[.int .i64 0,.int .i64 0]) .i64 .i64 Tryz.underlying22 Tryz.underlying3 hi hz0 none 0 0 [] (run_firstCells_none w.drew i0.size 0 0 0) n (by omega) (by rw[hz1];decide) (by omega) (by omega) (by rw[hz2];omega)
   (by exact growslice_fits (by omega) (by rw[hz2];omega))
  rw[h]
  simp[Value.cells]
 obtain⟨G,hGe⟩:∃G,G=grownCap w (0+n) 0 53:=⟨_,rfl⟩
 rw[<-hGe]at hrz hG hG2
 have hnew:Has (w.alloc (.cells (Builtin.zeroCells #[.int .i64 0,.int .i64 0] n++Builtin.zeroCells #[.int .i64 0,.int .i64 0] (G-n)) 53)).drew w.heap.size 53 (Builtin.zeroCells #[.int .i64 0,.int .i64 0] n++Builtin.zeroCells #[.int .i64 0,.int .i64 0] (G-n)):=(Has.new w _ _).drew
 have hrow:bT w.heap.size (w.alloc (.cells (Builtin.zeroCells #[.int .i64 0,.int .i64 0] n++Builtin.zeroCells #[.int .i64 0,.int .i64 0] (G-n)) 53)).drew (some ⟨w.heap.size,0,none⟩) 0 G []:=by
  refine⟨rfl,⟨rfl,.inr ⟨w.heap.size,G,_,rfl,Nat.zero_le _,hnew,Nat.zero_le _,hG2,?_,by simp[aS]⟩⟩,fun k hk=>by simp[Value.ownBlock]at hk;omega⟩
  simp[Builtin.zeroCells]
  omega
 have iI:=ah hrow;clear hrow hnew
 have hG3:G<=9223372036854775807:=by unfold maxLen at hG2;omega
 have hnp:(0:Int)<n:=by omega
 clear hGe hi hz0 hz1 hz2 hG2
 go_enter Tryz.func347,Tryz.ntmps347
 go_wp2_with (at_builtin;refine Lib.wpList_append_run _ rfl _ _ _ _ rfl _ _ rfl rfl _ _ (hrz _) ?_)
 go_wp2
 go_ret
 exact⟨⟨_,_,rfl,iI.out⟩,((Kept.refl _ _).alloc _).drew⟩
end aP
namespace aP
theorem bT.cat{b:Nat}{w w':World}{A A':Option Addr}{n c c' m:Nat}{l l2:List Mem}(h:bT b w A n c l)(hb:b<=w.heap.size)(hm:m=l2.length)
  (ho:w'.ownsRow 0 53 2 (.slice A' (n+m) c') (n+m) (aS l++aS l2))
  (ha:(Value.slice A' (n+m) c').ownBlock=(Value.slice A n c).ownBlock\/(Value.slice A' (n+m) c').ownBlock=some w.heap.size):bT b w' A' (n+m) c' (l++l2):=by
 refine⟨by rw[h.1,hm];simp,by rw[zG];exact ho,fun k hk=> ?_⟩
 rcases ha with e|e
 ·exact h.2.2 k (e.symm.trans hk)
 ·rw[hk]at e
  injection e with e
  omega
theorem OU(w:World)(x:Nat)(A B:Option Addr)(n c m d:Nat)(l l2:List Mem)(hx:Has w x 22 #[.slice A n c,.slice B m d])(hn:n=l.length)(hm:m=l2.length)(hl:Src w 2 A l.length (aS l))(hl2:Src w 2 B l2.length (aS l2))
  (hpos:0<n) (hle:n+m<=5000):
  Calls Tryz.prog 258 #[.slice (some ⟨x,0,none⟩) 2 2] w fun e w'=>(∃O k oc,e=.returned (.slice O k oc)/\bT w.heap.size w' O k oc (l++l2))/\Kept aj w w':=by
 rw[<-hn]at hl
 rw[<-hm]at hl2
 have x0:w.cell? ⟨x,0,none⟩=some (.slice A n c):=hx.cell 0
 have x1:w.cell? ⟨x,1,none⟩=some (.slice B m d):=hx.cell 1
 have HX:=ah hx;clear hx
 have HL:=ah hl;clear hl
 have HL2:=ah hl2;clear hl2
 have HN:=ah hn;clear hn
 have HM:=ah hm;clear hm
 go_enter Tryz.func258,Tryz.ntmps258
 go_wp2_with fail
 go_loopg [3,5,11] 3 (fun gg v3 _ v11 wr=>w=wr/\((v11=.int .i64 0/\v3=.int .i64 0/\2<=gg)\/(v11=.int .i64 1/\v3=.int .i64 n/\1<=gg)\/(v11=.int .i64 2/\v3=.int .i64 (n+m:Nat))))
 case atStart=>exact⟨rfl,.inl ⟨rfl,rfl,by decide⟩⟩
 case round=>
  obtain⟨rfl,⟨rfl,rfl,hg⟩|⟨rfl,rfl,hg⟩|⟨rfl,rfl⟩⟩:=hrel
  ·go_wp2
   go_roundg 1
   case measure=>omega
   case rel=>exact⟨rfl,.inr (.inl ⟨rfl,rfl,by decide⟩)⟩
  ·go_wp2
   go_roundg 0
   case measure=>omega
   case rel=>exact⟨rfl,.inr (.inr ⟨rfl,by go_num⟩)⟩
  ·go_wp2_with fail
   refine(V5 _ (n+m) (by omega) (by omega)).mono ?_
   rintro e w2 ⟨⟨O,oc,rfl,hrow⟩,hk⟩
   have hx2:=HX.out.kept hk (fun x=>x)
   have HX2:=ah hx2;clear hx2
   have iI:=ah hrow;clear hrow
   have HK:=ah hk;clear hk
   clear x0 x1
   have hS1:Hid (0+n<=maxLen):=ah (by unfold maxLen;omega)
   have hS2:Hid ((0+n)*16<=140737488355328):=ah (by omega)
   have hS3:Hid (n+m<=maxLen):=ah (by unfold maxLen;omega)
   have hS4:Hid ((n+m)*16<=140737488355328):=ah (by omega)
   go_wp2_with fail
   go_loopg [6,27] 3 (fun gg v6 v27 wr=>∃(O:Option Addr) (k oc:Nat),v6=.slice O k oc/\Kept aj w wr/\((v27=.int .i64 0/\k=0/\bT w.heap.size wr O k oc []/\2<=gg)\/(v27=.int .i64 1/\k=n/\bT w.heap.size wr O k oc l/\1<=gg)\/(v27=.int .i64 2/\bT w.heap.size wr O k oc (l++l2))))
   case atStart=>exact⟨O,0,oc,rfl,HK.out,.inl ⟨rfl,rfl,iI.out,by decide⟩⟩
   case round=>
    obtain⟨O,k,oc,rfl,hk,⟨rfl,rfl,hrow,hg⟩|⟨rfl,rfl,hrow,hg⟩|⟨rfl,hrow⟩⟩:=hrel
    ·have hx3:=HX.out.kept hk (fun x=>x)
     have x0:wr.cell? ⟨x,0,none⟩=some (.slice A n c):=hx3.cell 0
     have vC:=ah hrow;clear hrow
     have bf:=ah hk;clear hk hx3
     go_wp2_with (at_builtin;refine aI ng (.tmp 31) (.tmp 32) rfl rfl (Value.slice O 0 oc) rfl vC.out.2.1 c rfl (HL.out.kept bf.out (fun _ _ x=>x)) (Nq l) hS1.out hS2.out ?_;intro O3 zN w9 ho3 hg3 wF)
     have RG:=bf.out.size
     have hn3:bT w.heap.size w9 O3 (0+n) zN ([]++l):=vC.out.cat (by omega) HN.out (by simpa [aS]using ho3) wF
     have hk9:Kept aj w w9:=bf.out.grown hg3 (fun k hk=> .inr (vC.out.2.2 k hk))
     simp only[Nat.zero_add,List.nil_append]at hn3⊢
     clear ho3 hg3 wF
     have kY:=ah hn3;clear hn3
     have qA:=ah hk9;clear hk9
     go_wp2
     go_roundg 1
     case measure=>omega
     case rel=>exact⟨O3,n,zN,rfl,qA.out,.inr (.inl ⟨rfl,rfl,kY.out,by decide⟩)⟩
    ·have hx3:=HX.out.kept hk (fun x=>x)
     have x1:wr.cell? ⟨x,1,none⟩=some (.slice B m d):=hx3.cell 1
     have vC:=ah hrow;clear hrow
     have bf:=ah hk;clear hk hx3
     go_wp2_with (at_builtin;refine aI ng (.tmp 31) (.tmp 32) rfl rfl (Value.slice O k oc) rfl vC.out.2.1 d rfl (HL2.out.kept bf.out (fun _ _ x=>x)) (Nq l2) hS3.out hS4.out ?_;intro O3 zN w9 ho3 hg3 wF)
     have RG:=bf.out.size
     have hn3:bT w.heap.size w9 O3 (k+m) zN (l++l2):=vC.out.cat (by omega) HM.out ho3 wF
     have hk9:Kept aj w w9:=bf.out.grown hg3 (fun k hk=> .inr (vC.out.2.2 k hk))
     clear ho3 hg3 wF
     have kY:=ah hn3;clear hn3
     have qA:=ah hk9;clear hk9
     go_wp2
     go_roundg 0
     case measure=>omega
     case rel=>exact⟨O3,k+m,zN,rfl,qA.out,.inr (.inr ⟨rfl,kY.out⟩)⟩
    ·have vC:=ah hrow;clear hrow
     have bf:=ah hk;clear hk
     go_wp2
     go_ret
     exact⟨⟨O,k,oc,rfl,vC.out⟩,bf.out⟩
theorem RP{w:World}{B:Nat}{A:Option Addr}{n c:Nat}{ss:List Int}(h:dP B w A n c ss)(hsz:ss.length<4611686018427387904):
  Calls Tryz.prog 110 #[.slice A n c] w fun e w'=>e=.returned (.tuple #[])/\dP B w' A n c (ss.mergeSort fun x y=>decide (x<=y))/\Kept (RowOf (.slice A n c)) w w':=by
 obtain⟨rfl,h,hb⟩:=h
 have h':=h
 rcases h.2 with⟨hv,h0⟩|⟨g,cap,cur,hv,hb',hg,h1,h2,h3,h4⟩
 ·have hs:ss=[]:=List.eq_nil_of_length_eq_zero h0
  subst hs
  refine(Rx.slices_Sort_int_none A c w).mono ?_
  rintro e w' ⟨rfl,rfl⟩
  exact⟨rfl,⟨by simp,by simpa using h',hb⟩,Kept.refl _ _⟩
 ·injection hv with e1 e2 e3
  subst e1
  subst e3
  refine(Rx.slices_Sort_int g 0 c ss w (holds_of_blockI hg (by simpa using h4)) (Array.getElem?_eq_some_iff.1 hg).1 hsz).mono ?_
  rintro e w' ⟨rfl,n,os,rfl⟩
  exact⟨rfl,⟨by simp,ownsRow_sortedI (by simp) hb' hg h1 h2 h3,hb⟩,(Kept.refl _ _).grownBy (grownBy_sortedI _) (fun k hk=> .inl hk)⟩
end aP
end Go.Proofs.YtolkgbafebehfaaGreat
namespace Go.Proofs.YtolkgbafebehfaaGreat
open Go.RowKit
set_option maxRecDepth 100000
namespace eF
open aP Vn Mst lJ
theorem rows_apart{w:World}{e1 e2:TypeId}{s1 s2 n1 n2:Nat}{v1 v2:Value}{x1 x2:List Value}(h1:w.ownsRow 0 e1 s1 v1 n1 x1)(h2:w.ownsRow 0 e2 s2 v2 n2 x2)(hne:e2≠e1):∀g,v1.ownBlock=some g->¬v2.ownBlock=some g:=fun g hg hg2=>by
 obtain⟨cs,hh⟩:=jH h1 hg
 exact own_ne h2 hh hne hg2
theorem aF.beside{e e2:TypeId}{size size2 n c n2 c2 B:Nat}{w w1 w':World}{A A2:Option Addr}{xs xs2:List Value}(h:aF e size B w A n c xs)(hk:Kept aj w w1)(h2:aF e2 size2 B w A2 n2 c2 xs2)(hne:e2≠e)
  (hg:w1.grownBy w' (Value.slice A2 n2 c2).ownBlock):aF e size B w' A n c xs:=
 ⟨aC (F:=fun k=>(Value.slice A2 n2 c2).ownBlock=some k) (aC h.1 hk (fun _ _ z=>z)) ((Kept.refl _ w1).grownBy hg fun k hk=> .inl hk) (fun g hg2=>rows_apart h.1 h2.1 hne g hg2),h.2⟩
def iE(l:List aZ):List aZ:=(l.filter fun p=>decide (1<p.left)).map fun p=>⟨p.id,p.at',p.left-1⟩
def jA(l:List aZ):List Int:=(l.filter fun p=> !decide (1<p.left)).map fun p=>p.id
theorem RQ{l:List aZ}{i:Nat}{p:aZ}(h:l[i]? =some p):iE (l.take (i+1))=if 1<p.left then iE (l.take i)++[⟨p.id,p.at',p.left-1⟩]else iE (l.take i):=by
 obtain⟨hi,he⟩:=List.getElem?_eq_some_iff.1 h
 unfold iE
 rw[List.take_succ_eq_append_getElem hi,he,List.filter_append,List.map_append]
 by_cases hp:1<p.left
 ·rw[if_pos hp,List.filter_cons,if_pos (decide_eq_true hp)];rfl
 ·rw[if_neg hp,List.filter_cons,if_neg (by simpa using hp)];simp
theorem Zt{l:List aZ}{i:Nat}{p:aZ}(h:l[i]? =some p):jA (l.take (i+1))=if 1<p.left then jA (l.take i)else jA (l.take i)++[p.id]:=by
 obtain⟨hi,he⟩:=List.getElem?_eq_some_iff.1 h
 unfold jA
 rw[List.take_succ_eq_append_getElem hi,he,List.filter_append,List.map_append]
 by_cases hp:1<p.left
 ·rw[if_pos hp,List.filter_cons,if_neg (by simpa using hp)];simp
 ·rw[if_neg hp,List.filter_cons,if_pos (by simpa using hp)];rfl
theorem Ef(l:List aZ):(iE l).length<=l.length:=by
 unfold iE;rw[List.length_map];exact List.length_filter_le _ _
theorem Jk(l:List aZ):(jA l).length<=l.length:=by
 unfold jA;rw[List.length_map];exact List.length_filter_le _ _
theorem xW(l:List aZ)(p:aZ):aK (l++[p])=aK l++[.int .i64 p.id,.int .u64 p.at',.int .i64 p.left]:=by
 unfold aK
 rw[List.flatMap_append]
 rfl
def Jl(w:World)(l:List aZ)(e:Ending)(w':World):Prop:=∃A c B d,e=.returned (.tuple #[.slice A (iE l).length c,.slice B (jA l).length d])/\aF 79 3 w.heap.size w' A (iE l).length c (aK (iE l))/\aF 3 1 w.heap.size w' B (jA l).length d (ints (jA l))/\Kept aj w w'
theorem RS(w:World)(A0:Option Addr)(c0:Nat)(l:List aZ)(hl:Src w 3 A0 l.length (aK l))(hlen:l.length<=1000)(hleft:∀p∈l,0<=p.left/\p.left<=1000000):
  Calls Tryz.prog 62 #[.slice A0 l.length c0] w (Jl w l):=by
 have HL:=ah hl;have HLF:=ah hleft;clear hl hleft
 go_enter Tryz.func62,Tryz.ntmps62
 go_wp2_with fail
 go_loopw [4,5,10] (fun v4 v5 v10 wr=>∃(i:Nat) (A:Option Addr) (c:Nat) (B:Option Addr) (d:Nat),i<=l.length/\v10=.int .i64 i/\v4=.slice A (iE (l.take i)).length c/\v5=.slice B (jA (l.take i)).length d/\
  aF 79 3 w.heap.size wr A (iE (l.take i)).length c (aK (iE (l.take i)))/\aF 3 1 w.heap.size wr B (jA (l.take i)).length d (ints (jA (l.take i)))/\Kept aj w wr) (fun _ _ v10 _=>l.length-(intOf v10).toNat)
 case atStart=>exact⟨0,none,0,none,0,Nat.zero_le _,rfl,rfl,rfl,aF.nil _ _ _ _,aF.nil _ _ _ _,Kept.refl _ _⟩
 case round=>
  obtain⟨i,A,c,B,d,hi,rfl,rfl,rfl,hr1,hr2,hk⟩:=hrel
  by_cases hil:i<l.length
  ·obtain⟨p,hp⟩:∃p,l[i]? =some p:=⟨_,List.getElem?_eq_getElem hil⟩
   obtain⟨ad,rfl,hl1,x0,x1,x2⟩:=jU (HL.out.kept hk (fun _ _ x=>x)) (by omega) i p hp
   have ht:=RQ hp
   have hg:=Zt hp
   have hpl:=HLF.out p (List.mem_of_getElem? hp)
   have b1:=Ef (l.take i)
   have b2:=Jk (l.take i)
   have b3:(l.take i).length<=1000:=by rw[List.length_take];omega
   obtain⟨T,hT⟩:∃T,iE (l.take i)=T:=⟨_,rfl⟩
   obtain⟨G,hG⟩:∃G,jA (l.take i)=G:=⟨_,rfl⟩
   rw[hT]at ht hr1 b1⊢
   rw[hG]at hg hr2 b2⊢
   have HR1:=ah hr1;have HR2:=ah hr2;have HK:=ah hk;have HT:=ah ht;have HG:=ah hg
   clear hp ht hg hT hG hr1 hr2 hk
   obtain⟨q1,q2,q3⟩:=p
   dsimp only at hpl x0 x1 x2
   have hb3:0<=q3/\q3<=1000000:=hpl
   have fQ:Hid (T.length+1<=maxLen):=ah (by unfold maxLen;omega)
   have iC:Hid ((T.length+1)*24<=140737488355328):=ah (by omega)
   have zO:Hid (G.length+1<=maxLen):=ah (by unfold maxLen;omega)
   have yB:Hid ((G.length+1)*8<=140737488355328):=ah (by omega)
   clear hpl b1 b2 b3
   by_cases h1:1<q3
   ·have ht1:=HT.out
    have hg1:=HG.out
    dsimp only at ht1 hg1
    rw[if_pos h1]at ht1 hg1
    have HT1:=ah ht1;have gu:=ah hg1;clear ht1 hg1 HT HG
    have h2:¬q3<=1:=by omega
    go_wp2_with (at_builtin;refine aI yw (.tmp 26) (.tmp 28) rfl rfl (Value.slice A T.length c) rfl (aC HR1.out.1 (F:=aj) (by(repeat'(first|(with_reducible first|exact ak|apply au|apply ay|apply aA|apply aB)|(right;simp;done)))) (fun _ _ x=>x)) 1 rfl (Src.bW (t:=79) (size:=3) (m:=1) (cs:=#[.int .i64 q1,.int .u64 q2,.int .i64 (q3-1)]) (by(repeat (with_reducible first|exact Has.bP _ _ _ (by simp)|apply Has.drew|apply Has.drewN|apply Has.alloc|(apply Has.past<;>(try omega))))) rfl) (by simp[Value.oneCell']) fQ.out iC.out ?_;intro A1 c1 w9 ho1 hg1 ha1;have hpush:=aF.pushed HR1.out (by(repeat'(first|(with_reducible first|exact ak|apply au|apply ay|apply aA|apply aB)|(exact HK.out)|(right;simp;done)))) ho1 hg1 ha1;have HP:=ah hpush;have fA:=aF.beside HR2.out (by(repeat'(first|(with_reducible first|exact ak|apply au|apply ay|apply aA|apply aB)|(right;simp;done)))) HR1.out (by decide) hg1;have Eg:=ah fA;clear ho1 hg1 ha1 hpush fA)
    go_roundw
    case rel=>exact⟨i+1,A1,c1,B,d,by omega,by go_num,by rw[HT1.out,List.length_append];rfl,by rw[gu.out],by rw[HT1.out,xW,List.length_append];exact HP.out.1,by rw[gu.out];exact Eg.out,HP.out.2⟩
    case measure=>simp[intOf];omega
   ·have ht1:=HT.out
    have hg1:=HG.out
    dsimp only at ht1 hg1
    rw[if_neg h1]at ht1 hg1
    have HT1:=ah ht1;have gu:=ah hg1;clear ht1 hg1 HT HG
    have h2:q3<=1:=by omega
    go_wp2_with (at_builtin;refine aI aP.jF (.tmp 17) (.tmp 20) rfl rfl (Value.slice B G.length d) rfl (aC HR2.out.1 (F:=aj) (by(repeat'(first|(with_reducible first|exact ak|apply au|apply ay|apply aA|apply aB)|(right;simp;done)))) (fun _ _ x=>x)) 1 rfl (Src.bW (t:=3) (size:=1) (m:=1) (cs:=#[.int .i64 q1]) (by(repeat (with_reducible first|exact Has.bP _ _ _ (by simp)|apply Has.drew|apply Has.drewN|apply Has.alloc|(apply Has.past<;>(try omega))))) rfl) (by simp[Value.oneCell']) zO.out yB.out ?_;intro A1 c1 w9 ho1 hg1 ha1;have hpush:=aF.pushed HR2.out (by(repeat'(first|(with_reducible first|exact ak|apply au|apply ay|apply aA|apply aB)|(exact HK.out)|(right;simp;done)))) ho1 hg1 ha1;have HP:=ah hpush;have fA:=aF.beside HR1.out (by(repeat'(first|(with_reducible first|exact ak|apply au|apply ay|apply aA|apply aB)|(right;simp;done)))) HR2.out (by decide) hg1;have Eg:=ah fA;clear ho1 hg1 ha1 hpush fA)
    go_roundw
    case rel=>exact⟨i+1,A,c,A1,c1,by omega,by go_num,by rw[HT1.out],by rw[gu.out,List.length_append];rfl,by rw[HT1.out];exact Eg.out,by rw[gu.out,List.length_append];simpa [ints]using HP.out.1,HP.out.2⟩
    case measure=>simp[intOf];omega
  ·obtain rfl:i=l.length:=by omega
   rw[List.take_length]at hr1 hr2⊢
   have HR1:=ah hr1;have HR2:=ah hr2;have HK:=ah hk;clear hr1 hr2 hk
   go_wp2
   go_ret2
   exact⟨A,c,B,d,rfl,HR1.out,HR2.out,HK.out⟩
end eF
end Go.Proofs.YtolkgbafebehfaaGreat

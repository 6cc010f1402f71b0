/- Part 8 of what the proof needs. -/
import Derived.Test.YtfjdpbbgfjhnlaaGreatMK06
set_option linter.unusedSimpArgs false
set_option linter.unusedVariables false
set_option maxHeartbeats 32000000
set_option maxRecDepth 100000
namespace Go.Proofs.YtfjdpbbgfjhnlaaGreat
open Go.RowKit Go.Shelf
set_option maxRecDepth 100000
namespace mY
open aO Ops xE Vn mP Mst gZ
def xP(x:aG):kZ:=⟨x.b.cl,x.b.req,x.oA,x.oc,x.b.ops,x.ts⟩
def iV(x:aG):List UInt8:=put x.k.toNat++
 (if x.k=1 then dK (ku x.ep x.ms x.fl)++put x.lg.length++x.lg.flatMap (fun i=>put i.toNat)
 else if x.k=2 then put x.n.toNat++dK (nM (xP x))
 else if x.k=3 then put x.n.toNat++put x.at'.toNat
 else if x.k=4 then put x.at'.toNat++put x.n.toNat
 else if x.k=6 then put x.pin.id.toNat++put x.pin.at'.toNat++put x.pin.left.toNat
 else if x.k=8 then put x.said.cl.toNat++put x.said.req.toNat++put x.said.e.toNat++put x.said.pin.toNat
 else put x.n.toNat)
def kT(x:aG):ByteArray:=if aQ x=0 then bG (iV x)else emp
def NU(x:aG):Prop:=(0<=x.at'/\x.at'<=aT)/\(0<=x.pin.at'/\x.pin.at'<=aT)/\(0<=x.fl/\x.fl<=aT)/\(0<=x.ts/\x.ts<=aT)
theorem nC{x:Int}(h:gW [x]=0):0<=x/\x<=1073741824:=by
 unfold gW jR xu at h
 by_cases hr:x<0\/1073741824<x
 ·rw[if_pos hr]at h;simp at h
 ·omega
theorem vK{x y:Int}(h:gW [x,y]=0):(0<=x/\x<=1073741824)/\(0<=y/\y<=1073741824):=by
 unfold gW jR jR xu at h
 by_cases hr:x<0\/1073741824<x
 ·rw[if_pos hr]at h;simp at h
 ·rw[if_neg hr,if_pos rfl]at h
  by_cases hs:y<0\/1073741824<y
  ·rw[if_pos hs]at h;simp at h
  ·omega
theorem JF{a:jK}(h:saidE a=0):(0<=a.cl/\a.cl<3)/\(0<=a.req/\a.req<=1073741824)/\(0<=a.e/\a.e<=21)/\(0<=a.pin/\a.pin<=1073741824):=by
 unfold saidE at h
 by_cases h1:a.cl<0\/3<=a.cl
 ·rw[if_pos h1]at h;cases h
 rw[if_neg h1]at h
 by_cases h2:gW [a.req,a.pin]≠0
 ·rw[if_pos h2]at h;exact absurd h h2
 rw[if_neg h2]at h
 have h3:=vK (Classical.not_not.1 h2)
 by_cases h4:a.e<0\/21<a.e
 ·rw[if_pos h4]at h;cases h
 omega
theorem Ic{l:List Int}(h:mV l=0):l.length<=4/\∀y∈l,0<=y/\y<4:=by
 unfold mV at h
 by_cases h1:4<l.length
 ·rw[if_pos h1]at h;cases h
 rw[if_neg h1]at h
 refine⟨by omega,?_⟩
 have key:∀(f:Nat->Int->Int) (l:List Int) (i:Nat),jR f l i=0->∀y∈l,∃j,f j y=0:=by
  intro f l
  induction l with
  |nil=>intro i _ y hy;cases hy
  |cons a l ih=>
   intro i h0 y hy
   rw[jR]at h0
   by_cases ha:f i a=0
   ·rw[if_pos ha]at h0
    rcases List.mem_cons.1 hy with rfl|hy
    ·exact⟨i,ha⟩
    ·exact ih _ h0 y hy
   ·rw[if_neg ha]at h0;exact absurd h0 ha
 intro y hy
 obtain⟨j,hj⟩:=key _ l 0 h y hy
 unfold vI at hj
 by_cases h2:y<0\/4<=y
 ·rw[if_pos h2]at hj;cases hj
 ·omega
section
variable{w:World}{x:aG}
theorem aao(h:iI w x)(h0:aQ x≠0):Calls Tryz.prog 62 #[fE x] w fun e w'=>e=.returned (.tuple #[.string emp,.int .i64 (aQ x)])/\Kept aj w w':=by
 obtain⟨W0,hW0⟩:∃W0,w.alloc (.cells (aJ x).toArray 83)=W0:=⟨_,rfl⟩
 have hk0:Kept aj w W0:=by rw[<-hW0];(repeat'(first|(with_reducible first|exact ak|apply au|apply ay|apply aA|apply aB)|(right;simp;done)))
 have hn0:Has W0 w.heap.size 83 (aJ x).toArray:=by rw[<-hW0];exact Has.new _ _ _
 have eu:=dZ W0 x (h.kept hk0)
 obtain⟨z,hz⟩:∃z,aQ x=z:=⟨_,rfl⟩
 rw[hz]at eu h0⊢
 have h2:(z !=0)=true:=by simpa using h0
 have bf:=ah hk0;have dO:=ah hn0;have HC:=ah eu
 clear hk0 hn0 eu h h0 hz
 go_enter Tryz.func62,Tryz.ntmps62
 go_wp2_with (refine wpList_load_row rfl 83 (.tmp 1) rfl w.heap.size rfl 83 _ (0,0) _ dO.out Tryz.underlying83 rfl (by kernel_rfl) ?_)
 clear hW0
 refine HC.out.mono ?_
 rintro e w2 ⟨rfl,hk⟩
 have HK:=ah (bf.out.then hk);clear hk
 go_wp2
 go_ret2
 exact⟨rfl,HK.out⟩
theorem aeh(h:iI w x)(h0:aQ x=0)(hu:NU x)(hk:x.k=5):Calls Tryz.prog 62 #[fE x] w fun e w'=>e=.returned (.tuple #[.string (bG (iV x)),.int .i64 0])/\Kept aj w w':=by
 have hP:iV x=put 5++(put x.n.toNat):=by unfold iV;rw[hk];rfl
 rw[hP]
 obtain⟨W0,hW0⟩:∃W0,w.alloc (.cells (aJ x).toArray 83)=W0:=⟨_,rfl⟩
 have hk0:Kept aj w W0:=by rw[<-hW0];(repeat'(first|(with_reducible first|exact ak|apply au|apply ay|apply aA|apply aB)|(right;simp;done)))
 have hn0:Has W0 w.heap.size 83 (aJ x).toArray:=by rw[<-hW0];exact Has.new _ _ _
 have eu:=dZ W0 x (h.kept hk0)
 rw[h0]at eu
 have hq:∀W,Has W w.heap.size 83 (aJ x).toArray->W.cell? ⟨w.heap.size,0,none⟩=some (.int .i64 5):=fun W hW=>by
  have h0:W.cell? ⟨w.heap.size,0,none⟩=some (.int .i64 x.k):=hW.cell 0
  rw[hk]at h0
  exact h0
 have hz:gW [x.n]=0:=by
  unfold aQ at h0
  rw[hk]at h0
  exact h0
 obtain⟨n,hn⟩:∃n:Nat,x.n=n:=⟨(x.n).toNat,by have:=nC hz;omega⟩
 have hcn:∀W,Has W w.heap.size 83 (aJ x).toArray->W.cell? ⟨w.heap.size,1,none⟩=some (.int .i64 (n:Int)):=fun W hW=>by
  have h0:W.cell? ⟨w.heap.size,1,none⟩=some (.int .i64 (x.n)):=hW.cell 1
  rw[hn]at h0
  exact h0
 have hbn:=nC hz
 rw[hn]at hbn⊢
 rw[Int.toNat_natCast]
 have xH:=ah hcn;have zl:=ah hbn
 clear hcn hbn hn
 clear hz
 have HC:=ah eu;have HQ:=ah hq;have bf:=ah hk0;have dO:=ah hn0;have HX:=ah h;have HU:=ah hu
 clear eu hq hk0 hn0 h hu h0 hP hk
 go_enter Tryz.func62,Tryz.ntmps62
 go_wp2_with (refine wpList_load_row rfl 83 (.tmp 1) rfl w.heap.size rfl 83 _ (0,0) _ dO.out Tryz.underlying83 rfl (by kernel_rfl) ?_)
 clear hW0
 refine HC.out.mono ?_
 rintro e w2 ⟨rfl,hk2⟩
 have dL:=ah (dO.out.kept hk2 (fun z=>z));have aW:=ah (bf.out.then hk2);clear hk2
 have c0:=HQ.out _ dL.out
 have hnew:∀W,Has W w.heap.size 83 (aJ x).toArray->Calls Tryz.prog 117 #[] W fun e w'=>∃g,e=.returned (.pointer (some ⟨g,0,none⟩))/\WS W.heap.size w' g [] [(w.heap.size,83,(aJ x).toArray)]/\Kept aj W w':=
  fun W hW=>rF W _ (fun y hy=>by simp at hy;subst hy;exact hW)
 have fH:=ah hnew;clear hnew
 go_wp2_with fail
 go_region_held3 (fun W=>W.cell? ⟨w.heap.size,0,none⟩=some (.int .i64 5)) (first|with_reducible exact q5|with_reducible exact q4|with_reducible exact c0|(simp[go_sem,c0];done))
  (first
   |(go_at_call 117;refine(fH.out _ (by exact dL.out)).mono ?_;rintro e w4 ⟨g,rfl,hw4,lJ⟩;have q4:=HQ.out _ (hw4.has (List.mem_singleton.2 rfl));have kC:=ah hw4;have lK:=ah lJ;clear hw4 lJ)
   |(go_at_call 118;refine(gX (by exact kC.out) 5 (by omega) (by simp)).mono ?_;rintro e w5 ⟨rfl,hw5,hb5⟩;have q5:=HQ.out _ (hw5.has (List.mem_singleton.2 rfl));have dS:=ah hw5;have jf:=ah hb5;clear hw5 hb5))
 have hk4:Kept aj w w4:=Kept.then (by(repeat'(first|(with_reducible first|exact ak|apply au|apply ay|apply aA|apply aB)|(with_reducible exact aW.out)|(right;simp;done)))) lK.out
 have hle:w.heap.size<=w2.heap.size:=aW.out.size
 have hk5:Kept aj w w5:=behind hk4 jf.out hle
 have hw5:=dS.out
 simp only[List.nil_append]at hw5
 clear q4 c0 kC dS jf lK hk4 fH HC
 have dS:=ah hw5;have cO:=ah hk5;have jk:=ah hle;clear hw5 hk5 hle
 have hpl:=bH (n:=5) (by omega)
 have hne:put 5≠[]:=by
  intro e
  have h1:=put_pos 5
  rw[e]at h1
  simp at h1
 have HH:=ah (And.intro hpl hne);clear hpl hne
 have u1:=xH.out _ (dS.out.has (List.mem_singleton.2 rfl))
 go_wp2_with fail
 refine(gX dS.out n (by have:=zl.out;omega) (by have:=HH.out.1;omega)).mono ?_
 rintro e w6 ⟨rfl,hw6,hb6⟩
 have uz:=ah hw6;have uZ:=ah (behind cO.out hb6 jk.out);clear hw6 hb6 u1 q5
 go_wp2_with fail
 refine(pF uz.out (by have:=HH.out.2;simp;intro h;exact absurd h this)).mono ?_
 rintro e wf ⟨rfl,hbf⟩
 have wJ:=ah (behind uZ.out hbf jk.out);clear hbf
 go_wp2
 go_ret2
 exact⟨by simp only[List.append_assoc];rfl,wJ.out⟩
theorem aei(h:iI w x)(h0:aQ x=0)(hu:NU x)(hk:x.k=7):Calls Tryz.prog 62 #[fE x] w fun e w'=>e=.returned (.tuple #[.string (bG (iV x)),.int .i64 0])/\Kept aj w w':=by
 have hP:iV x=put 7++(put x.n.toNat):=by unfold iV;rw[hk];rfl
 rw[hP]
 obtain⟨W0,hW0⟩:∃W0,w.alloc (.cells (aJ x).toArray 83)=W0:=⟨_,rfl⟩
 have hk0:Kept aj w W0:=by rw[<-hW0];(repeat'(first|(with_reducible first|exact ak|apply au|apply ay|apply aA|apply aB)|(right;simp;done)))
 have hn0:Has W0 w.heap.size 83 (aJ x).toArray:=by rw[<-hW0];exact Has.new _ _ _
 have eu:=dZ W0 x (h.kept hk0)
 rw[h0]at eu
 have hq:∀W,Has W w.heap.size 83 (aJ x).toArray->W.cell? ⟨w.heap.size,0,none⟩=some (.int .i64 7):=fun W hW=>by
  have h0:W.cell? ⟨w.heap.size,0,none⟩=some (.int .i64 x.k):=hW.cell 0
  rw[hk]at h0
  exact h0
 have hz:gW [x.n]=0:=by
  unfold aQ at h0
  rw[hk]at h0
  exact h0
 obtain⟨n,hn⟩:∃n:Nat,x.n=n:=⟨(x.n).toNat,by have:=nC hz;omega⟩
 have hcn:∀W,Has W w.heap.size 83 (aJ x).toArray->W.cell? ⟨w.heap.size,1,none⟩=some (.int .i64 (n:Int)):=fun W hW=>by
  have h0:W.cell? ⟨w.heap.size,1,none⟩=some (.int .i64 (x.n)):=hW.cell 1
  rw[hn]at h0
  exact h0
 have hbn:=nC hz
 rw[hn]at hbn⊢
 rw[Int.toNat_natCast]
 have xH:=ah hcn;have zl:=ah hbn
 clear hcn hbn hn
 clear hz
 have HC:=ah eu;have HQ:=ah hq;have bf:=ah hk0;have dO:=ah hn0;have HX:=ah h;have HU:=ah hu
 clear eu hq hk0 hn0 h hu h0 hP hk
 go_enter Tryz.func62,Tryz.ntmps62
 go_wp2_with (refine wpList_load_row rfl 83 (.tmp 1) rfl w.heap.size rfl 83 _ (0,0) _ dO.out Tryz.underlying83 rfl (by kernel_rfl) ?_)
 clear hW0
 refine HC.out.mono ?_
 rintro e w2 ⟨rfl,hk2⟩
 have dL:=ah (dO.out.kept hk2 (fun z=>z));have aW:=ah (bf.out.then hk2);clear hk2
 have c0:=HQ.out _ dL.out
 have hnew:∀W,Has W w.heap.size 83 (aJ x).toArray->Calls Tryz.prog 117 #[] W fun e w'=>∃g,e=.returned (.pointer (some ⟨g,0,none⟩))/\WS W.heap.size w' g [] [(w.heap.size,83,(aJ x).toArray)]/\Kept aj W w':=
  fun W hW=>rF W _ (fun y hy=>by simp at hy;subst hy;exact hW)
 have fH:=ah hnew;clear hnew
 go_wp2_with fail
 go_region_held3 (fun W=>W.cell? ⟨w.heap.size,0,none⟩=some (.int .i64 7)) (first|with_reducible exact q5|with_reducible exact q4|with_reducible exact c0|(simp[go_sem,c0];done))
  (first
   |(go_at_call 117;refine(fH.out _ (by exact dL.out)).mono ?_;rintro e w4 ⟨g,rfl,hw4,lJ⟩;have q4:=HQ.out _ (hw4.has (List.mem_singleton.2 rfl));have kC:=ah hw4;have lK:=ah lJ;clear hw4 lJ)
   |(go_at_call 118;refine(gX (by exact kC.out) 7 (by omega) (by simp)).mono ?_;rintro e w5 ⟨rfl,hw5,hb5⟩;have q5:=HQ.out _ (hw5.has (List.mem_singleton.2 rfl));have dS:=ah hw5;have jf:=ah hb5;clear hw5 hb5))
 have hk4:Kept aj w w4:=Kept.then (by(repeat'(first|(with_reducible first|exact ak|apply au|apply ay|apply aA|apply aB)|(with_reducible exact aW.out)|(right;simp;done)))) lK.out
 have hle:w.heap.size<=w2.heap.size:=aW.out.size
 have hk5:Kept aj w w5:=behind hk4 jf.out hle
 have hw5:=dS.out
 simp only[List.nil_append]at hw5
 clear q4 c0 kC dS jf lK hk4 fH HC
 have dS:=ah hw5;have cO:=ah hk5;have jk:=ah hle;clear hw5 hk5 hle
 have hpl:=bH (n:=7) (by omega)
 have hne:put 7≠[]:=by
  intro e
  have h1:=put_pos 7
  rw[e]at h1
  simp at h1
 have HH:=ah (And.intro hpl hne);clear hpl hne
 have u1:=xH.out _ (dS.out.has (List.mem_singleton.2 rfl))
 go_wp2_with fail
 refine(gX dS.out n (by have:=zl.out;omega) (by have:=HH.out.1;omega)).mono ?_
 rintro e w6 ⟨rfl,hw6,hb6⟩
 have uz:=ah hw6;have uZ:=ah (behind cO.out hb6 jk.out);clear hw6 hb6 u1 q5
 go_wp2_with fail
 refine(pF uz.out (by have:=HH.out.2;simp;intro h;exact absurd h this)).mono ?_
 rintro e wf ⟨rfl,hbf⟩
 have wJ:=ah (behind uZ.out hbf jk.out);clear hbf
 go_wp2
 go_ret2
 exact⟨by simp only[List.append_assoc];rfl,wJ.out⟩
theorem aej(h:iI w x)(h0:aQ x=0)(hu:NU x)(hk:x.k=4):Calls Tryz.prog 62 #[fE x] w fun e w'=>e=.returned (.tuple #[.string (bG (iV x)),.int .i64 0])/\Kept aj w w':=by
 have hP:iV x=put 4++(put x.at'.toNat++put x.n.toNat):=by unfold iV;rw[hk];rfl
 rw[hP]
 obtain⟨W0,hW0⟩:∃W0,w.alloc (.cells (aJ x).toArray 83)=W0:=⟨_,rfl⟩
 have hk0:Kept aj w W0:=by rw[<-hW0];(repeat'(first|(with_reducible first|exact ak|apply au|apply ay|apply aA|apply aB)|(right;simp;done)))
 have hn0:Has W0 w.heap.size 83 (aJ x).toArray:=by rw[<-hW0];exact Has.new _ _ _
 have eu:=dZ W0 x (h.kept hk0)
 rw[h0]at eu
 have hq:∀W,Has W w.heap.size 83 (aJ x).toArray->W.cell? ⟨w.heap.size,0,none⟩=some (.int .i64 4):=fun W hW=>by
  have h0:W.cell? ⟨w.heap.size,0,none⟩=some (.int .i64 x.k):=hW.cell 0
  rw[hk]at h0
  exact h0
 have hz:gW [x.n]=0:=by
  unfold aQ at h0
  rw[hk]at h0
  exact h0
 obtain⟨n,hn⟩:∃n:Nat,x.n=n:=⟨(x.n).toNat,by have:=nC hz;omega⟩
 have hcn:∀W,Has W w.heap.size 83 (aJ x).toArray->W.cell? ⟨w.heap.size,1,none⟩=some (.int .i64 (n:Int)):=fun W hW=>by
  have h0:W.cell? ⟨w.heap.size,1,none⟩=some (.int .i64 (x.n)):=hW.cell 1
  rw[hn]at h0
  exact h0
 have hbn:=nC hz
 rw[hn]at hbn⊢
 rw[Int.toNat_natCast]
 have xH:=ah hcn;have zl:=ah hbn
 clear hcn hbn hn
 have hat:0<=x.at'/\x.at'<=18446744073709551615:=hu.1
 obtain⟨a,ha⟩:∃n:Nat,x.at'=n:=⟨(x.at').toNat,by have:=hat;omega⟩
 have hca:∀W,Has W w.heap.size 83 (aJ x).toArray->W.cell? ⟨w.heap.size,2,none⟩=some (.int .u64 (a:Int)):=fun W hW=>by
  have h0:W.cell? ⟨w.heap.size,2,none⟩=some (.int .u64 (x.at')):=hW.cell 2
  rw[ha]at h0
  exact h0
 have hba:=hat
 rw[ha]at hba⊢
 rw[Int.toNat_natCast]
 have xI:=ah hca;have D9:=ah hba
 clear hca hba ha
 clear hz hat
 have HC:=ah eu;have HQ:=ah hq;have bf:=ah hk0;have dO:=ah hn0;have HX:=ah h;have HU:=ah hu
 clear eu hq hk0 hn0 h hu h0 hP hk
 go_enter Tryz.func62,Tryz.ntmps62
 go_wp2_with (refine wpList_load_row rfl 83 (.tmp 1) rfl w.heap.size rfl 83 _ (0,0) _ dO.out Tryz.underlying83 rfl (by kernel_rfl) ?_)
 clear hW0
 refine HC.out.mono ?_
 rintro e w2 ⟨rfl,hk2⟩
 have dL:=ah (dO.out.kept hk2 (fun z=>z));have aW:=ah (bf.out.then hk2);clear hk2
 have c0:=HQ.out _ dL.out
 have hnew:∀W,Has W w.heap.size 83 (aJ x).toArray->Calls Tryz.prog 117 #[] W fun e w'=>∃g,e=.returned (.pointer (some ⟨g,0,none⟩))/\WS W.heap.size w' g [] [(w.heap.size,83,(aJ x).toArray)]/\Kept aj W w':=
  fun W hW=>rF W _ (fun y hy=>by simp at hy;subst hy;exact hW)
 have fH:=ah hnew;clear hnew
 go_wp2_with fail
 go_region_held3 (fun W=>W.cell? ⟨w.heap.size,0,none⟩=some (.int .i64 4)) (first|with_reducible exact q5|with_reducible exact q4|with_reducible exact c0|(simp[go_sem,c0];done))
  (first
   |(go_at_call 117;refine(fH.out _ (by exact dL.out)).mono ?_;rintro e w4 ⟨g,rfl,hw4,lJ⟩;have q4:=HQ.out _ (hw4.has (List.mem_singleton.2 rfl));have kC:=ah hw4;have lK:=ah lJ;clear hw4 lJ)
   |(go_at_call 118;refine(gX (by exact kC.out) 4 (by omega) (by simp)).mono ?_;rintro e w5 ⟨rfl,hw5,hb5⟩;have q5:=HQ.out _ (hw5.has (List.mem_singleton.2 rfl));have dS:=ah hw5;have jf:=ah hb5;clear hw5 hb5))
 have hk4:Kept aj w w4:=Kept.then (by(repeat'(first|(with_reducible first|exact ak|apply au|apply ay|apply aA|apply aB)|(with_reducible exact aW.out)|(right;simp;done)))) lK.out
 have hle:w.heap.size<=w2.heap.size:=aW.out.size
 have hk5:Kept aj w w5:=behind hk4 jf.out hle
 have hw5:=dS.out
 simp only[List.nil_append]at hw5
 clear q4 c0 kC dS jf lK hk4 fH HC
 have dS:=ah hw5;have cO:=ah hk5;have jk:=ah hle;clear hw5 hk5 hle
 have hpl:=bH (n:=4) (by omega)
 have hne:put 4≠[]:=by
  intro e
  have h1:=put_pos 4
  rw[e]at h1
  simp at h1
 have HH:=ah (And.intro hpl hne);clear hpl hne
 have u1:=xI.out _ (dS.out.has (List.mem_singleton.2 rfl))
 go_wp2_with fail
 refine(xO dS.out a (by have:=D9.out;omega) (by have:=HH.out.1;omega)).mono ?_
 rintro e w6 ⟨rfl,hw6,hb6⟩
 have yD:=ah hw6;have jY:=ah (behind cO.out hb6 jk.out);clear hw6 hb6 u1 q5
 have u1:=xH.out _ (yD.out.has (List.mem_singleton.2 rfl))
 go_wp2_with fail
 refine(gX yD.out n (by have:=zl.out;omega) (by have:=HH.out.1;have:=bH (n:=a) (by have:=D9.out;omega);simp;omega)).mono ?_
 rintro e w7 ⟨rfl,hw7,hb7⟩
 have uz:=ah hw7;have uZ:=ah (behind jY.out hb7 jk.out);clear hw7 hb7 u1
 go_wp2_with fail
 refine(pF uz.out (by have:=HH.out.2;simp;intro h;exact absurd h this)).mono ?_
 rintro e wf ⟨rfl,hbf⟩
 have wJ:=ah (behind uZ.out hbf jk.out);clear hbf
 go_wp2
 go_ret2
 exact⟨by simp only[List.append_assoc];rfl,wJ.out⟩
theorem aek(h:iI w x)(h0:aQ x=0)(hu:NU x)(hk:x.k=3):Calls Tryz.prog 62 #[fE x] w fun e w'=>e=.returned (.tuple #[.string (bG (iV x)),.int .i64 0])/\Kept aj w w':=by
 have hP:iV x=put 3++(put x.n.toNat++put x.at'.toNat):=by unfold iV;rw[hk];rfl
 rw[hP]
 obtain⟨W0,hW0⟩:∃W0,w.alloc (.cells (aJ x).toArray 83)=W0:=⟨_,rfl⟩
 have hk0:Kept aj w W0:=by rw[<-hW0];(repeat'(first|(with_reducible first|exact ak|apply au|apply ay|apply aA|apply aB)|(right;simp;done)))
 have hn0:Has W0 w.heap.size 83 (aJ x).toArray:=by rw[<-hW0];exact Has.new _ _ _
 have eu:=dZ W0 x (h.kept hk0)
 rw[h0]at eu
 have hq:∀W,Has W w.heap.size 83 (aJ x).toArray->W.cell? ⟨w.heap.size,0,none⟩=some (.int .i64 3):=fun W hW=>by
  have h0:W.cell? ⟨w.heap.size,0,none⟩=some (.int .i64 x.k):=hW.cell 0
  rw[hk]at h0
  exact h0
 have hz:gW [x.n]=0:=by
  unfold aQ at h0
  rw[hk]at h0
  exact h0
 obtain⟨n,hn⟩:∃n:Nat,x.n=n:=⟨(x.n).toNat,by have:=nC hz;omega⟩
 have hcn:∀W,Has W w.heap.size 83 (aJ x).toArray->W.cell? ⟨w.heap.size,1,none⟩=some (.int .i64 (n:Int)):=fun W hW=>by
  have h0:W.cell? ⟨w.heap.size,1,none⟩=some (.int .i64 (x.n)):=hW.cell 1
  rw[hn]at h0
  exact h0
 have hbn:=nC hz
 rw[hn]at hbn⊢
 rw[Int.toNat_natCast]
 have xH:=ah hcn;have zl:=ah hbn
 clear hcn hbn hn
 have hat:0<=x.at'/\x.at'<=18446744073709551615:=hu.1
 obtain⟨a,ha⟩:∃n:Nat,x.at'=n:=⟨(x.at').toNat,by have:=hat;omega⟩
 have hca:∀W,Has W w.heap.size 83 (aJ x).toArray->W.cell? ⟨w.heap.size,2,none⟩=some (.int .u64 (a:Int)):=fun W hW=>by
  have h0:W.cell? ⟨w.heap.size,2,none⟩=some (.int .u64 (x.at')):=hW.cell 2
  rw[ha]at h0
  exact h0
 have hba:=hat
 rw[ha]at hba⊢
 rw[Int.toNat_natCast]
 have xI:=ah hca;have D9:=ah hba
 clear hca hba ha
 clear hz hat
 have HC:=ah eu;have HQ:=ah hq;have bf:=ah hk0;have dO:=ah hn0;have HX:=ah h;have HU:=ah hu
 clear eu hq hk0 hn0 h hu h0 hP hk
 go_enter Tryz.func62,Tryz.ntmps62
 go_wp2_with (refine wpList_load_row rfl 83 (.tmp 1) rfl w.heap.size rfl 83 _ (0,0) _ dO.out Tryz.underlying83 rfl (by kernel_rfl) ?_)
 clear hW0
 refine HC.out.mono ?_
 rintro e w2 ⟨rfl,hk2⟩
 have dL:=ah (dO.out.kept hk2 (fun z=>z));have aW:=ah (bf.out.then hk2);clear hk2
 have c0:=HQ.out _ dL.out
 have hnew:∀W,Has W w.heap.size 83 (aJ x).toArray->Calls Tryz.prog 117 #[] W fun e w'=>∃g,e=.returned (.pointer (some ⟨g,0,none⟩))/\WS W.heap.size w' g [] [(w.heap.size,83,(aJ x).toArray)]/\Kept aj W w':=
  fun W hW=>rF W _ (fun y hy=>by simp at hy;subst hy;exact hW)
 have fH:=ah hnew;clear hnew
 go_wp2_with fail
 go_region_held3 (fun W=>W.cell? ⟨w.heap.size,0,none⟩=some (.int .i64 3)) (first|with_reducible exact q5|with_reducible exact q4|with_reducible exact c0|(simp[go_sem,c0];done))
  (first
   |(go_at_call 117;refine(fH.out _ (by exact dL.out)).mono ?_;rintro e w4 ⟨g,rfl,hw4,lJ⟩;have q4:=HQ.out _ (hw4.has (List.mem_singleton.2 rfl));have kC:=ah hw4;have lK:=ah lJ;clear hw4 lJ)
   |(go_at_call 118;refine(gX (by exact kC.out) 3 (by omega) (by simp)).mono ?_;rintro e w5 ⟨rfl,hw5,hb5⟩;have q5:=HQ.out _ (hw5.has (List.mem_singleton.2 rfl));have dS:=ah hw5;have jf:=ah hb5;clear hw5 hb5))
 have hk4:Kept aj w w4:=Kept.then (by(repeat'(first|(with_reducible first|exact ak|apply au|apply ay|apply aA|apply aB)|(with_reducible exact aW.out)|(right;simp;done)))) lK.out
 have hle:w.heap.size<=w2.heap.size:=aW.out.size
 have hk5:Kept aj w w5:=behind hk4 jf.out hle
 have hw5:=dS.out
 simp only[List.nil_append]at hw5
 clear q4 c0 kC dS jf lK hk4 fH HC
 have dS:=ah hw5;have cO:=ah hk5;have jk:=ah hle;clear hw5 hk5 hle
 have hpl:=bH (n:=3) (by omega)
 have hne:put 3≠[]:=by
  intro e
  have h1:=put_pos 3
  rw[e]at h1
  simp at h1
 have HH:=ah (And.intro hpl hne);clear hpl hne
 have ln:=bH (n:=n) (by have:=zl.out;omega)
 have la:=bH (n:=a) (by have:=D9.out;omega)
 have lM:=ah (And.intro ln (la))
 clear ln la
 have r0:w5.cell? ⟨w.heap.size,1,none⟩=some (.int .i64 (n:Int))/\w5.cell? ⟨w.heap.size,2,none⟩=some (.int .u64 (a:Int)):=⟨xH.out _ (dS.out.has (List.mem_singleton.2 rfl)),xI.out _ (dS.out.has (List.mem_singleton.2 rfl))⟩
 clear q5
 go_wp2_with fail
 go_region_held3 (fun W=>W.cell? ⟨w.heap.size,1,none⟩=some (.int .i64 (n:Int))/\W.cell? ⟨w.heap.size,2,none⟩=some (.int .u64 (a:Int))) (first|with_reducible exact r2|with_reducible exact r1|with_reducible exact r0|(simp[go_sem,r0];done))
  (first
   |(have hx:=qQ;clear hx;go_at_call 122;refine(xO (by exact qQ.out) a (by have:=D9.out;omega) (by have:=HH.out.1;have:=lM.out;simp;omega)).mono ?_;rintro e v2 ⟨rfl,hv,hd⟩;have r2:v2.cell? ⟨w.heap.size,1,none⟩=some (.int .i64 (n:Int))/\v2.cell? ⟨w.heap.size,2,none⟩=some (.int .u64 (a:Int)):=⟨xH.out _ (hv.has (List.mem_singleton.2 rfl)),xI.out _ (hv.has (List.mem_singleton.2 rfl))⟩;have rW:=ah hv;have HD2:=ah hd;clear hv hd)
   |(have hx:=dS;clear hx;go_at_call 118;refine(gX (by exact dS.out) n (by have:=zl.out;omega) (by have:=HH.out.1;have:=lM.out;simp;omega)).mono ?_;rintro e v1 ⟨rfl,hv,hd⟩;have r1:v1.cell? ⟨w.heap.size,1,none⟩=some (.int .i64 (n:Int))/\v1.cell? ⟨w.heap.size,2,none⟩=some (.int .u64 (a:Int)):=⟨xH.out _ (hv.has (List.mem_singleton.2 rfl)),xI.out _ (hv.has (List.mem_singleton.2 rfl))⟩;have qQ:=ah hv;have HD1:=ah hd;clear hv hd))
 have iC:Kept aj w v2:=behind (behind (by(repeat'(first|(with_reducible first|exact ak|apply au|apply ay|apply aA|apply aB)|(with_reducible exact cO.out)|(right;simp;done)))) HD1.out jk.out) HD2.out jk.out
 have uz:=ah rW.out;have uZ:=ah iC
 clear iC r0 r1 r2 qQ rW HD1 HD2
 go_wp2_with fail
 refine(pF uz.out (by have:=HH.out.2;simp;intro h;exact absurd h this)).mono ?_
 rintro e wf ⟨rfl,hbf⟩
 have wJ:=ah (behind uZ.out hbf jk.out);clear hbf
 go_wp2
 go_ret2
 exact⟨by simp only[List.append_assoc];rfl,wJ.out⟩
theorem ael(h:iI w x)(h0:aQ x=0)(hu:NU x)(hk:x.k=6):Calls Tryz.prog 62 #[fE x] w fun e w'=>e=.returned (.tuple #[.string (bG (iV x)),.int .i64 0])/\Kept aj w w':=by
 have hP:iV x=put 6++(put x.pin.id.toNat++put x.pin.at'.toNat++put x.pin.left.toNat):=by unfold iV;rw[hk];rfl
 rw[hP]
 obtain⟨W0,hW0⟩:∃W0,w.alloc (.cells (aJ x).toArray 83)=W0:=⟨_,rfl⟩
 have hk0:Kept aj w W0:=by rw[<-hW0];(repeat'(first|(with_reducible first|exact ak|apply au|apply ay|apply aA|apply aB)|(right;simp;done)))
 have hn0:Has W0 w.heap.size 83 (aJ x).toArray:=by rw[<-hW0];exact Has.new _ _ _
 have eu:=dZ W0 x (h.kept hk0)
 rw[h0]at eu
 have hq:∀W,Has W w.heap.size 83 (aJ x).toArray->W.cell? ⟨w.heap.size,0,none⟩=some (.int .i64 6):=fun W hW=>by
  have h0:W.cell? ⟨w.heap.size,0,none⟩=some (.int .i64 x.k):=hW.cell 0
  rw[hk]at h0
  exact h0
 have hz:gW [x.pin.id,x.pin.left]=0:=by
  unfold aQ at h0
  rw[hk]at h0
  exact h0
 obtain⟨n,hn⟩:∃n:Nat,x.pin.id=n:=⟨(x.pin.id).toNat,by have:=(vK hz).1;omega⟩
 have hcn:∀W,Has W w.heap.size 83 (aJ x).toArray->W.cell? ⟨w.heap.size,11,none⟩=some (.int .i64 (n:Int)):=fun W hW=>by
  have h0:W.cell? ⟨w.heap.size,11,none⟩=some (.int .i64 (x.pin.id)):=hW.cell 11
  rw[hn]at h0
  exact h0
 have hbn:=(vK hz).1
 rw[hn]at hbn⊢
 rw[Int.toNat_natCast]
 have xH:=ah hcn;have zl:=ah hbn
 clear hcn hbn hn
 have hat:0<=x.pin.at'/\x.pin.at'<=18446744073709551615:=hu.2.1
 obtain⟨a,ha⟩:∃n:Nat,x.pin.at'=n:=⟨(x.pin.at').toNat,by have:=hat;omega⟩
 have hca:∀W,Has W w.heap.size 83 (aJ x).toArray->W.cell? ⟨w.heap.size,12,none⟩=some (.int .u64 (a:Int)):=fun W hW=>by
  have h0:W.cell? ⟨w.heap.size,12,none⟩=some (.int .u64 (x.pin.at')):=hW.cell 12
  rw[ha]at h0
  exact h0
 have hba:=hat
 rw[ha]at hba⊢
 rw[Int.toNat_natCast]
 have xI:=ah hca;have D9:=ah hba
 clear hca hba ha
 obtain⟨m,hm⟩:∃n:Nat,x.pin.left=n:=⟨(x.pin.left).toNat,by have:=(vK hz).2;omega⟩
 have hcm:∀W,Has W w.heap.size 83 (aJ x).toArray->W.cell? ⟨w.heap.size,13,none⟩=some (.int .i64 (m:Int)):=fun W hW=>by
  have h0:W.cell? ⟨w.heap.size,13,none⟩=some (.int .i64 (x.pin.left)):=hW.cell 13
  rw[hm]at h0
  exact h0
 have hbm:=(vK hz).2
 rw[hm]at hbm⊢
 rw[Int.toNat_natCast]
 have HCm:=ah hcm;have HBm:=ah hbm
 clear hcm hbm hm
 clear hz hat
 have HC:=ah eu;have HQ:=ah hq;have bf:=ah hk0;have dO:=ah hn0;have HX:=ah h;have HU:=ah hu
 clear eu hq hk0 hn0 h hu h0 hP hk
 go_enter Tryz.func62,Tryz.ntmps62
 go_wp2_with (refine wpList_load_row rfl 83 (.tmp 1) rfl w.heap.size rfl 83 _ (0,0) _ dO.out Tryz.underlying83 rfl (by kernel_rfl) ?_)
 clear hW0
 refine HC.out.mono ?_
 rintro e w2 ⟨rfl,hk2⟩
 have dL:=ah (dO.out.kept hk2 (fun z=>z));have aW:=ah (bf.out.then hk2);clear hk2
 have c0:=HQ.out _ dL.out
 have hnew:∀W,Has W w.heap.size 83 (aJ x).toArray->Calls Tryz.prog 117 #[] W fun e w'=>∃g,e=.returned (.pointer (some ⟨g,0,none⟩))/\WS W.heap.size w' g [] [(w.heap.size,83,(aJ x).toArray)]/\Kept aj W w':=
  fun W hW=>rF W _ (fun y hy=>by simp at hy;subst hy;exact hW)
 have fH:=ah hnew;clear hnew
 go_wp2_with fail
 go_region_held3 (fun W=>W.cell? ⟨w.heap.size,0,none⟩=some (.int .i64 6)) (first|with_reducible exact q5|with_reducible exact q4|with_reducible exact c0|(simp[go_sem,c0];done))
  (first
   |(go_at_call 117;refine(fH.out _ (by exact dL.out)).mono ?_;rintro e w4 ⟨g,rfl,hw4,lJ⟩;have q4:=HQ.out _ (hw4.has (List.mem_singleton.2 rfl));have kC:=ah hw4;have lK:=ah lJ;clear hw4 lJ)
   |(go_at_call 118;refine(gX (by exact kC.out) 6 (by omega) (by simp)).mono ?_;rintro e w5 ⟨rfl,hw5,hb5⟩;have q5:=HQ.out _ (hw5.has (List.mem_singleton.2 rfl));have dS:=ah hw5;have jf:=ah hb5;clear hw5 hb5))
 have hk4:Kept aj w w4:=Kept.then (by(repeat'(first|(with_reducible first|exact ak|apply au|apply ay|apply aA|apply aB)|(with_reducible exact aW.out)|(right;simp;done)))) lK.out
 have hle:w.heap.size<=w2.heap.size:=aW.out.size
 have hk5:Kept aj w w5:=behind hk4 jf.out hle
 have hw5:=dS.out
 simp only[List.nil_append]at hw5
 clear q4 c0 kC dS jf lK hk4 fH HC
 have dS:=ah hw5;have cO:=ah hk5;have jk:=ah hle;clear hw5 hk5 hle
 have hpl:=bH (n:=6) (by omega)
 have hne:put 6≠[]:=by
  intro e
  have h1:=put_pos 6
  rw[e]at h1
  simp at h1
 have HH:=ah (And.intro hpl hne);clear hpl hne
 have ln:=bH (n:=n) (by have:=zl.out;omega)
 have la:=bH (n:=a) (by have:=D9.out;omega)
 have lm:=bH (n:=m) (by have:=HBm.out;omega)
 have lM:=ah (And.intro ln (And.intro la (lm)))
 clear ln la lm
 have r0:w5.cell? ⟨w.heap.size,11,none⟩=some (.int .i64 (n:Int))/\w5.cell? ⟨w.heap.size,12,none⟩=some (.int .u64 (a:Int))/\w5.cell? ⟨w.heap.size,13,none⟩=some (.int .i64 (m:Int)):=⟨xH.out _ (dS.out.has (List.mem_singleton.2 rfl)),xI.out _ (dS.out.has (List.mem_singleton.2 rfl)),HCm.out _ (dS.out.has (List.mem_singleton.2 rfl))⟩
 clear q5
 go_wp2_with fail
 go_region_held3 (fun W=>W.cell? ⟨w.heap.size,11,none⟩=some (.int .i64 (n:Int))/\W.cell? ⟨w.heap.size,12,none⟩=some (.int .u64 (a:Int))/\W.cell? ⟨w.heap.size,13,none⟩=some (.int .i64 (m:Int))) (first|with_reducible exact r3|with_reducible exact r2|with_reducible exact r1|with_reducible exact r0|(simp[go_sem,r0];done))
  (first
   |(have hx:=rW;clear hx;go_at_call 118;refine(gX (by exact rW.out) m (by have:=HBm.out;omega) (by have:=HH.out.1;have:=lM.out;simp;omega)).mono ?_;rintro e v3 ⟨rfl,hv,hd⟩;have r3:v3.cell? ⟨w.heap.size,11,none⟩=some (.int .i64 (n:Int))/\v3.cell? ⟨w.heap.size,12,none⟩=some (.int .u64 (a:Int))/\v3.cell? ⟨w.heap.size,13,none⟩=some (.int .i64 (m:Int)):=⟨xH.out _ (hv.has (List.mem_singleton.2 rfl)),xI.out _ (hv.has (List.mem_singleton.2 rfl)),HCm.out _ (hv.has (List.mem_singleton.2 rfl))⟩;have Kv:=ah hv;have HD3:=ah hd;clear hv hd)
   |(have hx:=qQ;clear hx;go_at_call 122;refine(xO (by exact qQ.out) a (by have:=D9.out;omega) (by have:=HH.out.1;have:=lM.out;simp;omega)).mono ?_;rintro e v2 ⟨rfl,hv,hd⟩;have r2:v2.cell? ⟨w.heap.size,11,none⟩=some (.int .i64 (n:Int))/\v2.cell? ⟨w.heap.size,12,none⟩=some (.int .u64 (a:Int))/\v2.cell? ⟨w.heap.size,13,none⟩=some (.int .i64 (m:Int)):=⟨xH.out _ (hv.has (List.mem_singleton.2 rfl)),xI.out _ (hv.has (List.mem_singleton.2 rfl)),HCm.out _ (hv.has (List.mem_singleton.2 rfl))⟩;have rW:=ah hv;have HD2:=ah hd;clear hv hd)
   |(have hx:=dS;clear hx;go_at_call 118;refine(gX (by exact dS.out) n (by have:=zl.out;omega) (by have:=HH.out.1;have:=lM.out;simp;omega)).mono ?_;rintro e v1 ⟨rfl,hv,hd⟩;have r1:v1.cell? ⟨w.heap.size,11,none⟩=some (.int .i64 (n:Int))/\v1.cell? ⟨w.heap.size,12,none⟩=some (.int .u64 (a:Int))/\v1.cell? ⟨w.heap.size,13,none⟩=some (.int .i64 (m:Int)):=⟨xH.out _ (hv.has (List.mem_singleton.2 rfl)),xI.out _ (hv.has (List.mem_singleton.2 rfl)),HCm.out _ (hv.has (List.mem_singleton.2 rfl))⟩;have qQ:=ah hv;have HD1:=ah hd;clear hv hd))
 have iC:Kept aj w v3:=behind (behind (behind (by(repeat'(first|(with_reducible first|exact ak|apply au|apply ay|apply aA|apply aB)|(with_reducible exact cO.out)|(right;simp;done)))) HD1.out jk.out) HD2.out jk.out) HD3.out jk.out
 have uz:=ah Kv.out;have uZ:=ah iC
 clear iC r0 r1 r2 r3 qQ rW Kv HD1 HD2 HD3
 go_wp2_with fail
 refine(pF uz.out (by have:=HH.out.2;simp;intro h;exact absurd h this)).mono ?_
 rintro e wf ⟨rfl,hbf⟩
 have wJ:=ah (behind uZ.out hbf jk.out);clear hbf
 go_wp2
 go_ret2
 exact⟨by simp only[List.append_assoc];rfl,wJ.out⟩
theorem aem(h:iI w x)(h0:aQ x=0)(hu:NU x)(hk:x.k=8):Calls Tryz.prog 62 #[fE x] w fun e w'=>e=.returned (.tuple #[.string (bG (iV x)),.int .i64 0])/\Kept aj w w':=by
 have hP:iV x=put 8++(put x.said.cl.toNat++put x.said.req.toNat++put x.said.e.toNat++put x.said.pin.toNat):=by unfold iV;rw[hk];rfl
 rw[hP]
 obtain⟨W0,hW0⟩:∃W0,w.alloc (.cells (aJ x).toArray 83)=W0:=⟨_,rfl⟩
 have hk0:Kept aj w W0:=by rw[<-hW0];(repeat'(first|(with_reducible first|exact ak|apply au|apply ay|apply aA|apply aB)|(right;simp;done)))
 have hn0:Has W0 w.heap.size 83 (aJ x).toArray:=by rw[<-hW0];exact Has.new _ _ _
 have eu:=dZ W0 x (h.kept hk0)
 rw[h0]at eu
 have hq:∀W,Has W w.heap.size 83 (aJ x).toArray->W.cell? ⟨w.heap.size,0,none⟩=some (.int .i64 8):=fun W hW=>by
  have h0:W.cell? ⟨w.heap.size,0,none⟩=some (.int .i64 x.k):=hW.cell 0
  rw[hk]at h0
  exact h0
 have hz:saidE x.said=0:=by
  unfold aQ at h0
  rw[hk]at h0
  exact h0
 have hsd:=JF hz
 obtain⟨a,ha⟩:∃n:Nat,x.said.cl=n:=⟨(x.said.cl).toNat,by have:=hsd.1;omega⟩
 have hca:∀W,Has W w.heap.size 83 (aJ x).toArray->W.cell? ⟨w.heap.size,14,none⟩=some (.int .i64 (a:Int)):=fun W hW=>by
  have h0:W.cell? ⟨w.heap.size,14,none⟩=some (.int .i64 (x.said.cl)):=hW.cell 14
  rw[ha]at h0
  exact h0
 have hba:=hsd.1
 rw[ha]at hba⊢
 rw[Int.toNat_natCast]
 have xI:=ah hca;have D9:=ah hba
 clear hca hba ha
 obtain⟨b,hb⟩:∃n:Nat,x.said.req=n:=⟨(x.said.req).toNat,by have:=hsd.2.1;omega⟩
 have hcb:∀W,Has W w.heap.size 83 (aJ x).toArray->W.cell? ⟨w.heap.size,15,none⟩=some (.int .i64 (b:Int)):=fun W hW=>by
  have h0:W.cell? ⟨w.heap.size,15,none⟩=some (.int .i64 (x.said.req)):=hW.cell 15
  rw[hb]at h0
  exact h0
 have hbb:=hsd.2.1
 rw[hb]at hbb⊢
 rw[Int.toNat_natCast]
 have WO:=ah hcb;have HBb:=ah hbb
 clear hcb hbb hb
 obtain⟨c,hc⟩:∃n:Nat,x.said.e=n:=⟨(x.said.e).toNat,by have:=hsd.2.2.1;omega⟩
 have hcc:∀W,Has W w.heap.size 83 (aJ x).toArray->W.cell? ⟨w.heap.size,16,none⟩=some (.int .i64 (c:Int)):=fun W hW=>by
  have h0:W.cell? ⟨w.heap.size,16,none⟩=some (.int .i64 (x.said.e)):=hW.cell 16
  rw[hc]at h0
  exact h0
 have hbc:=hsd.2.2.1
 rw[hc]at hbc⊢
 rw[Int.toNat_natCast]
 have WQ:=ah hcc;have HBc:=ah hbc
 clear hcc hbc hc
 obtain⟨d,hd⟩:∃n:Nat,x.said.pin=n:=⟨(x.said.pin).toNat,by have:=hsd.2.2.2;omega⟩
 have hcd:∀W,Has W w.heap.size 83 (aJ x).toArray->W.cell? ⟨w.heap.size,17,none⟩=some (.int .i64 (d:Int)):=fun W hW=>by
  have h0:W.cell? ⟨w.heap.size,17,none⟩=some (.int .i64 (x.said.pin)):=hW.cell 17
  rw[hd]at h0
  exact h0
 have hbd:=hsd.2.2.2
 rw[hd]at hbd⊢
 rw[Int.toNat_natCast]
 have WR:=ah hcd;have HBd:=ah hbd
 clear hcd hbd hd
 clear hz hsd
 have HC:=ah eu;have HQ:=ah hq;have bf:=ah hk0;have dO:=ah hn0;have HX:=ah h;have HU:=ah hu
 clear eu hq hk0 hn0 h hu h0 hP hk
 go_enter Tryz.func62,Tryz.ntmps62
 go_wp2_with (refine wpList_load_row rfl 83 (.tmp 1) rfl w.heap.size rfl 83 _ (0,0) _ dO.out Tryz.underlying83 rfl (by kernel_rfl) ?_)
 clear hW0
 refine HC.out.mono ?_
 rintro e w2 ⟨rfl,hk2⟩
 have dL:=ah (dO.out.kept hk2 (fun z=>z));have aW:=ah (bf.out.then hk2);clear hk2
 have c0:=HQ.out _ dL.out
 have hnew:∀W,Has W w.heap.size 83 (aJ x).toArray->Calls Tryz.prog 117 #[] W fun e w'=>∃g,e=.returned (.pointer (some ⟨g,0,none⟩))/\WS W.heap.size w' g [] [(w.heap.size,83,(aJ x).toArray)]/\Kept aj W w':=
  fun W hW=>rF W _ (fun y hy=>by simp at hy;subst hy;exact hW)
 have fH:=ah hnew;clear hnew
 go_wp2_with fail
 go_region_held3 (fun W=>W.cell? ⟨w.heap.size,0,none⟩=some (.int .i64 8)) (first|with_reducible exact q5|with_reducible exact q4|with_reducible exact c0|(simp[go_sem,c0];done))
  (first
   |(go_at_call 117;refine(fH.out _ (by exact dL.out)).mono ?_;rintro e w4 ⟨g,rfl,hw4,lJ⟩;have q4:=HQ.out _ (hw4.has (List.mem_singleton.2 rfl));have kC:=ah hw4;have lK:=ah lJ;clear hw4 lJ)
   |(go_at_call 118;refine(gX (by exact kC.out) 8 (by omega) (by simp)).mono ?_;rintro e w5 ⟨rfl,hw5,hb5⟩;have q5:=HQ.out _ (hw5.has (List.mem_singleton.2 rfl));have dS:=ah hw5;have jf:=ah hb5;clear hw5 hb5))
 have hk4:Kept aj w w4:=Kept.then (by(repeat'(first|(with_reducible first|exact ak|apply au|apply ay|apply aA|apply aB)|(with_reducible exact aW.out)|(right;simp;done)))) lK.out
 have hle:w.heap.size<=w2.heap.size:=aW.out.size
 have hk5:Kept aj w w5:=behind hk4 jf.out hle
 have hw5:=dS.out
 simp only[List.nil_append]at hw5
 clear q4 c0 kC dS jf lK hk4 fH HC
 have dS:=ah hw5;have cO:=ah hk5;have jk:=ah hle;clear hw5 hk5 hle
 have hpl:=bH (n:=8) (by omega)
 have hne:put 8≠[]:=by
  intro e
  have h1:=put_pos 8
  rw[e]at h1
  simp at h1
 have HH:=ah (And.intro hpl hne);clear hpl hne
 have la:=bH (n:=a) (by have:=D9.out;omega)
 have lb:=bH (n:=b) (by have:=HBb.out;omega)
 have lc:=bH (n:=c) (by have:=HBc.out;omega)
 have ld:=bH (n:=d) (by have:=HBd.out;omega)
 have lM:=ah (And.intro la (And.intro lb (And.intro lc (ld))))
 clear la lb lc ld
 have r0:w5.cell? ⟨w.heap.size,14,none⟩=some (.int .i64 (a:Int))/\w5.cell? ⟨w.heap.size,15,none⟩=some (.int .i64 (b:Int))/\w5.cell? ⟨w.heap.size,16,none⟩=some (.int .i64 (c:Int))/\w5.cell? ⟨w.heap.size,17,none⟩=some (.int .i64 (d:Int)):=⟨xI.out _ (dS.out.has (List.mem_singleton.2 rfl)),WO.out _ (dS.out.has (List.mem_singleton.2 rfl)),WQ.out _ (dS.out.has (List.mem_singleton.2 rfl)),WR.out _ (dS.out.has (List.mem_singleton.2 rfl))⟩
 clear q5
 go_wp2_with fail
 go_region_held3 (fun W=>W.cell? ⟨w.heap.size,14,none⟩=some (.int .i64 (a:Int))/\W.cell? ⟨w.heap.size,15,none⟩=some (.int .i64 (b:Int))/\W.cell? ⟨w.heap.size,16,none⟩=some (.int .i64 (c:Int))/\W.cell? ⟨w.heap.size,17,none⟩=some (.int .i64 (d:Int))) (first|with_reducible exact r4|with_reducible exact r3|with_reducible exact r2|with_reducible exact r1|with_reducible exact r0|(simp[go_sem,r0];done))
  (first
   |(have hx:=Kv;clear hx;go_at_call 118;refine(gX (by exact Kv.out) d (by have:=HBd.out;omega) (by have:=HH.out.1;have:=lM.out;simp;omega)).mono ?_;rintro e v4 ⟨rfl,hv,hd⟩;have r4:v4.cell? ⟨w.heap.size,14,none⟩=some (.int .i64 (a:Int))/\v4.cell? ⟨w.heap.size,15,none⟩=some (.int .i64 (b:Int))/\v4.cell? ⟨w.heap.size,16,none⟩=some (.int .i64 (c:Int))/\v4.cell? ⟨w.heap.size,17,none⟩=some (.int .i64 (d:Int)):=⟨xI.out _ (hv.has (List.mem_singleton.2 rfl)),WO.out _ (hv.has (List.mem_singleton.2 rfl)),WQ.out _ (hv.has (List.mem_singleton.2 rfl)),WR.out _ (hv.has (List.mem_singleton.2 rfl))⟩;have HV4:=ah hv;have HD4:=ah hd;clear hv hd)
   |(have hx:=rW;clear hx;go_at_call 118;refine(gX (by exact rW.out) c (by have:=HBc.out;omega) (by have:=HH.out.1;have:=lM.out;simp;omega)).mono ?_;rintro e v3 ⟨rfl,hv,hd⟩;have r3:v3.cell? ⟨w.heap.size,14,none⟩=some (.int .i64 (a:Int))/\v3.cell? ⟨w.heap.size,15,none⟩=some (.int .i64 (b:Int))/\v3.cell? ⟨w.heap.size,16,none⟩=some (.int .i64 (c:Int))/\v3.cell? ⟨w.heap.size,17,none⟩=some (.int .i64 (d:Int)):=⟨xI.out _ (hv.has (List.mem_singleton.2 rfl)),WO.out _ (hv.has (List.mem_singleton.2 rfl)),WQ.out _ (hv.has (List.mem_singleton.2 rfl)),WR.out _ (hv.has (List.mem_singleton.2 rfl))⟩;have Kv:=ah hv;have HD3:=ah hd;clear hv hd)
   |(have hx:=qQ;clear hx;go_at_call 118;refine(gX (by exact qQ.out) b (by have:=HBb.out;omega) (by have:=HH.out.1;have:=lM.out;simp;omega)).mono ?_;rintro e v2 ⟨rfl,hv,hd⟩;have r2:v2.cell? ⟨w.heap.size,14,none⟩=some (.int .i64 (a:Int))/\v2.cell? ⟨w.heap.size,15,none⟩=some (.int .i64 (b:Int))/\v2.cell? ⟨w.heap.size,16,none⟩=some (.int .i64 (c:Int))/\v2.cell? ⟨w.heap.size,17,none⟩=some (.int .i64 (d:Int)):=⟨xI.out _ (hv.has (List.mem_singleton.2 rfl)),WO.out _ (hv.has (List.mem_singleton.2 rfl)),WQ.out _ (hv.has (List.mem_singleton.2 rfl)),WR.out _ (hv.has (List.mem_singleton.2 rfl))⟩;have rW:=ah hv;have HD2:=ah hd;clear hv hd)
   |(have hx:=dS;clear hx;go_at_call 118;refine(gX (by exact dS.out) a (by have:=D9.out;omega) (by have:=HH.out.1;have:=lM.out;simp;omega)).mono ?_;rintro e v1 ⟨rfl,hv,hd⟩;have r1:v1.cell? ⟨w.heap.size,14,none⟩=some (.int .i64 (a:Int))/\v1.cell? ⟨w.heap.size,15,none⟩=some (.int .i64 (b:Int))/\v1.cell? ⟨w.heap.size,16,none⟩=some (.int .i64 (c:Int))/\v1.cell? ⟨w.heap.size,17,none⟩=some (.int .i64 (d:Int)):=⟨xI.out _ (hv.has (List.mem_singleton.2 rfl)),WO.out _ (hv.has (List.mem_singleton.2 rfl)),WQ.out _ (hv.has (List.mem_singleton.2 rfl)),WR.out _ (hv.has (List.mem_singleton.2 rfl))⟩;have qQ:=ah hv;have HD1:=ah hd;clear hv hd))
 have iC:Kept aj w v4:=behind (behind (behind (behind (by(repeat'(first|(with_reducible first|exact ak|apply au|apply ay|apply aA|apply aB)|(with_reducible exact cO.out)|(right;simp;done)))) HD1.out jk.out) HD2.out jk.out) HD3.out jk.out) HD4.out jk.out
 have uz:=ah HV4.out;have uZ:=ah iC
 clear iC r0 r1 r2 r3 r4 qQ rW Kv HV4 HD1 HD2 HD3 HD4
 go_wp2_with fail
 refine(pF uz.out (by have:=HH.out.2;simp;intro h;exact absurd h this)).mono ?_
 rintro e wf ⟨rfl,hbf⟩
 have wJ:=ah (behind uZ.out hbf jk.out);clear hbf
 go_wp2
 go_ret2
 exact⟨by simp only[List.append_assoc];rfl,wJ.out⟩
theorem aen(h:iI w x)(h0:aQ x=0)(hu:NU x)(hk:x.k=2):Calls Tryz.prog 62 #[fE x] w fun e w'=>e=.returned (.tuple #[.string (bG (iV x)),.int .i64 0])/\Kept aj w w':=by
 have hP:iV x=put 2++(put x.n.toNat++dK (nM (xP x))):=by unfold iV;rw[hk];rfl
 rw[hP]
 obtain⟨W0,hW0⟩:∃W0,w.alloc (.cells (aJ x).toArray 83)=W0:=⟨_,rfl⟩
 have hk0:Kept aj w W0:=by rw[<-hW0];(repeat'(first|(with_reducible first|exact ak|apply au|apply ay|apply aA|apply aB)|(right;simp;done)))
 have hn0:Has W0 w.heap.size 83 (aJ x).toArray:=by rw[<-hW0];exact Has.new _ _ _
 have eu:=dZ W0 x (h.kept hk0)
 rw[h0]at eu
 have hq:∀W,Has W w.heap.size 83 (aJ x).toArray->W.cell? ⟨w.heap.size,0,none⟩=some (.int .i64 2):=fun W hW=>by
  have h0:W.cell? ⟨w.heap.size,0,none⟩=some (.int .i64 x.k):=hW.cell 0
  rw[hk]at h0
  exact h0
 have hz:(if gW [x.n]=0 then Ops.chk x.b else gW [x.n])=0:=by
  unfold aQ at h0
  rw[hk]at h0
  exact h0
 have aap:gW [x.n]=0:=by
  by_cases hn:gW [x.n]=0
  ·exact hn
  ·rw[if_neg hn]at hz;exact absurd hz hn
 obtain⟨n,hn⟩:∃n:Nat,x.n=n:=⟨(x.n).toNat,by have:=nC aap;omega⟩
 have hcn:∀W,Has W w.heap.size 83 (aJ x).toArray->W.cell? ⟨w.heap.size,1,none⟩=some (.int .i64 (n:Int)):=fun W hW=>by
  have h0:W.cell? ⟨w.heap.size,1,none⟩=some (.int .i64 (x.n)):=hW.cell 1
  rw[hn]at h0
  exact h0
 have hbn:=nC aap
 rw[hn]at hbn⊢
 rw[Int.toNat_natCast]
 have xH:=ah hcn;have zl:=ah hbn
 clear hcn hbn hn
 clear hz aap
 have hcall:=fun W (hW:Kept aj w W)=>NT W (xP x) (h.o.kept hW (fun _ _ z=>z)) hu.2.2.2
 have hsz:=yx (e:=xP x) hu.2.2.2
 obtain⟨s,hs⟩:∃s,nM (xP x)=s:=⟨_,rfl⟩
 obtain⟨z,hz⟩:∃z,Ops.chk (oK (xP x))=z:=⟨_,rfl⟩
 rw[hs]at hcall hsz⊢
 rw[hz]at hcall
 dsimp only[xP,aee]at hcall
 have Dp:=ah hcall;have lD:=ah hsz
 clear hcall hsz hs hz
 have HC:=ah eu;have HQ:=ah hq;have bf:=ah hk0;have dO:=ah hn0;have HX:=ah h;have HU:=ah hu
 clear eu hq hk0 hn0 h hu h0 hP hk
 go_enter Tryz.func62,Tryz.ntmps62
 go_wp2_with (refine wpList_load_row rfl 83 (.tmp 1) rfl w.heap.size rfl 83 _ (0,0) _ dO.out Tryz.underlying83 rfl (by kernel_rfl) ?_)
 clear hW0
 refine HC.out.mono ?_
 rintro e w2 ⟨rfl,hk2⟩
 have dL:=ah (dO.out.kept hk2 (fun z=>z));have aW:=ah (bf.out.then hk2);clear hk2
 have c0:=HQ.out _ dL.out
 have hnew:∀W,Has W w.heap.size 83 (aJ x).toArray->Calls Tryz.prog 117 #[] W fun e w'=>∃g,e=.returned (.pointer (some ⟨g,0,none⟩))/\WS W.heap.size w' g [] [(w.heap.size,83,(aJ x).toArray)]/\Kept aj W w':=
  fun W hW=>rF W _ (fun y hy=>by simp at hy;subst hy;exact hW)
 have fH:=ah hnew;clear hnew
 go_wp2_with fail
 go_region_held3 (fun W=>W.cell? ⟨w.heap.size,0,none⟩=some (.int .i64 2)) (first|with_reducible exact q5|with_reducible exact q4|with_reducible exact c0|(simp[go_sem,c0];done))
  (first
   |(go_at_call 117;refine(fH.out _ (by exact dL.out)).mono ?_;rintro e w4 ⟨g,rfl,hw4,lJ⟩;have q4:=HQ.out _ (hw4.has (List.mem_singleton.2 rfl));have kC:=ah hw4;have lK:=ah lJ;clear hw4 lJ)
   |(go_at_call 118;refine(gX (by exact kC.out) 2 (by omega) (by simp)).mono ?_;rintro e w5 ⟨rfl,hw5,hb5⟩;have q5:=HQ.out _ (hw5.has (List.mem_singleton.2 rfl));have dS:=ah hw5;have jf:=ah hb5;clear hw5 hb5))
 have hk4:Kept aj w w4:=Kept.then (by(repeat'(first|(with_reducible first|exact ak|apply au|apply ay|apply aA|apply aB)|(with_reducible exact aW.out)|(right;simp;done)))) lK.out
 have hle:w.heap.size<=w2.heap.size:=aW.out.size
 have hk5:Kept aj w w5:=behind hk4 jf.out hle
 have hw5:=dS.out
 simp only[List.nil_append]at hw5
 clear q4 c0 kC dS jf lK hk4 fH HC
 have dS:=ah hw5;have cO:=ah hk5;have jk:=ah hle;clear hw5 hk5 hle
 have hpl:=bH (n:=2) (by omega)
 have hne:put 2≠[]:=by
  intro e
  have h1:=put_pos 2
  rw[e]at h1
  simp at h1
 have HH:=ah (And.intro hpl hne);clear hpl hne
 have jO:=dS.out.has (List.mem_singleton.2 rfl)
 have u7:w5.cell? ⟨w.heap.size,7,none⟩=some (.int .i64 x.b.cl):=jO.cell 7
 have u8:w5.cell? ⟨w.heap.size,8,none⟩=some (.int .i64 x.b.req):=jO.cell 8
 have u9:w5.cell? ⟨w.heap.size,9,none⟩=some (.slice x.oA x.b.ops.length x.oc):=jO.cell 9
 have u10:w5.cell? ⟨w.heap.size,10,none⟩=some (.int .u64 x.ts):=jO.cell 10
 clear jO q5
 go_wp2_with fail
 refine(Dp.out _ cO.out).mono ?_
 rintro e w6 ⟨rfl,hk6⟩
 have yD:=ah (WS.kept (G:=aj) dS.out hk6);have jY:=ah (cO.out.then hk6);clear hk6 u7 u8 u9 u10
 have u1:=xH.out _ (yD.out.has (List.mem_singleton.2 rfl))
 go_wp2_with fail
 refine(gX yD.out n (by have:=zl.out;omega) (by have:=HH.out.1;omega)).mono ?_
 rintro e w7 ⟨rfl,hw7,hb7⟩
 have WT:=ah hw7;have yE:=ah (behind jY.out hb7 jk.out);clear hw7 hb7 u1
 go_wp2_with fail
 refine(pz WT.out s (by have:=HH.out.1;have:=lD.out;have:=bH (n:=n) (by have:=zl.out;omega);simp;omega)).mono ?_
 rintro e w8 ⟨rfl,hw8,hb8⟩
 have uz:=ah hw8;have uZ:=ah (behind yE.out hb8 jk.out);clear hw8 hb8
 go_wp2_with fail
 refine(pF uz.out (by have:=HH.out.2;simp;intro h;exact absurd h this)).mono ?_
 rintro e wf ⟨rfl,hbf⟩
 have wJ:=ah (behind uZ.out hbf jk.out);clear hbf
 go_wp2
 go_ret2
 exact⟨by simp only[List.append_assoc];rfl,wJ.out⟩
theorem aeo(h:iI w x)(h0:aQ x=0)(hu:NU x)(hk:x.k=1):Calls Tryz.prog 62 #[fE x] w fun e w'=>e=.returned (.tuple #[.string (bG (iV x)),.int .i64 0])/\Kept aj w w':=by
 have hP:iV x=put 1++(dK (ku x.ep x.ms x.fl)++put x.lg.length++x.lg.flatMap (fun i=>put i.toNat)):=by unfold iV;rw[hk];rfl
 rw[hP]
 obtain⟨W0,hW0⟩:∃W0,w.alloc (.cells (aJ x).toArray 83)=W0:=⟨_,rfl⟩
 have hk0:Kept aj w W0:=by rw[<-hW0];(repeat'(first|(with_reducible first|exact ak|apply au|apply ay|apply aA|apply aB)|(right;simp;done)))
 have hn0:Has W0 w.heap.size 83 (aJ x).toArray:=by rw[<-hW0];exact Has.new _ _ _
 have eu:=dZ W0 x (h.kept hk0)
 rw[h0]at eu
 have hq:∀W,Has W w.heap.size 83 (aJ x).toArray->W.cell? ⟨w.heap.size,0,none⟩=some (.int .i64 1):=fun W hW=>by
  have h0:W.cell? ⟨w.heap.size,0,none⟩=some (.int .i64 x.k):=hW.cell 0
  rw[hk]at h0
  exact h0
 have hz:(if aO.chk x.ep x.ms=0 then mV x.lg else aO.chk x.ep x.ms)=0:=by
  unfold aQ at h0
  rw[hk]at h0
  exact h0
 have hc0:aO.chk x.ep x.ms=0:=by
  by_cases hc:aO.chk x.ep x.ms=0
  ·exact hc
  ·rw[if_neg hc]at hz;exact absurd hz hc
 rw[if_pos hc0]at hz
 have yF:=Ic hz
 have hcl:∀W,Has W w.heap.size 83 (aJ x).toArray->W.cell? ⟨w.heap.size,6,none⟩=some (.slice x.lA x.lg.length x.lc):=fun W hW=>hW.cell 6
 have hsl:=h.l
 obtain⟨l,hl⟩:∃l,x.lg=l:=⟨_,rfl⟩
 obtain⟨A,hA⟩:∃A,x.lA=A:=⟨_,rfl⟩
 rw[hl]at hcl yF hsl⊢
 rw[hA]at hcl hsl
 have hcall:=fun W (hW:Kept aj w W)=>NS W x.ep x.fl x.mA x.mc x.ms (h.m.kept hW (fun _ _ z=>z)) h.mc h.ml hu.2.2.1
 have hsz:=tN (ep:=x.ep) (ms:=x.ms) hu.2.2.1
 obtain⟨s,hs⟩:∃s,ku x.ep x.ms x.fl=s:=⟨_,rfl⟩
 obtain⟨z,hz2⟩:∃z,aO.chk x.ep x.ms=z:=⟨_,rfl⟩
 rw[hs]at hcall hsz⊢
 rw[hz2]at hcall
 have Dp:=ah hcall;have lD:=ah hsz
 have nX:=ah hcl;have tq:=ah yF;have xJ:=ah hsl
 clear hz hc0 hl hA hcl yF hsl hcall hsz hs hz2
 have HC:=ah eu;have HQ:=ah hq;have bf:=ah hk0;have dO:=ah hn0;have HX:=ah h;have HU:=ah hu
 clear eu hq hk0 hn0 h hu h0 hP hk
 go_enter Tryz.func62,Tryz.ntmps62
 go_wp2_with (refine wpList_load_row rfl 83 (.tmp 1) rfl w.heap.size rfl 83 _ (0,0) _ dO.out Tryz.underlying83 rfl (by kernel_rfl) ?_)
 clear hW0
 refine HC.out.mono ?_
 rintro e w2 ⟨rfl,hk2⟩
 have dL:=ah (dO.out.kept hk2 (fun z=>z));have aW:=ah (bf.out.then hk2);clear hk2
 have c0:=HQ.out _ dL.out
 have hnew:∀W,Has W w.heap.size 83 (aJ x).toArray->Calls Tryz.prog 117 #[] W fun e w'=>∃g,e=.returned (.pointer (some ⟨g,0,none⟩))/\WS W.heap.size w' g [] [(w.heap.size,83,(aJ x).toArray)]/\Kept aj W w':=
  fun W hW=>rF W _ (fun y hy=>by simp at hy;subst hy;exact hW)
 have fH:=ah hnew;clear hnew
 go_wp2_with fail
 go_region_held3 (fun W=>W.cell? ⟨w.heap.size,0,none⟩=some (.int .i64 1)) (first|with_reducible exact q5|with_reducible exact q4|with_reducible exact c0|(simp[go_sem,c0];done))
  (first
   |(go_at_call 117;refine(fH.out _ (by exact dL.out)).mono ?_;rintro e w4 ⟨g,rfl,hw4,lJ⟩;have q4:=HQ.out _ (hw4.has (List.mem_singleton.2 rfl));have kC:=ah hw4;have lK:=ah lJ;clear hw4 lJ)
   |(go_at_call 118;refine(gX (by exact kC.out) 1 (by omega) (by simp)).mono ?_;rintro e w5 ⟨rfl,hw5,hb5⟩;have q5:=HQ.out _ (hw5.has (List.mem_singleton.2 rfl));have dS:=ah hw5;have jf:=ah hb5;clear hw5 hb5))
 have hk4:Kept aj w w4:=Kept.then (by(repeat'(first|(with_reducible first|exact ak|apply au|apply ay|apply aA|apply aB)|(with_reducible exact aW.out)|(right;simp;done)))) lK.out
 have hle:w.heap.size<=w2.heap.size:=aW.out.size
 have hk5:Kept aj w w5:=behind hk4 jf.out hle
 have hw5:=dS.out
 simp only[List.nil_append]at hw5
 clear q4 c0 kC dS jf lK hk4 fH HC
 have dS:=ah hw5;have cO:=ah hk5;have jk:=ah hle;clear hw5 hk5 hle
 have hpl:=bH (n:=1) (by omega)
 have hne:put 1≠[]:=by
  intro e
  have h1:=put_pos 1
  rw[e]at h1
  simp at h1
 have HH:=ah (And.intro hpl hne);clear hpl hne
 have jO:=dS.out.has (List.mem_singleton.2 rfl)
 have u3:w5.cell? ⟨w.heap.size,3,none⟩=some (.int .i64 x.ep):=jO.cell 3
 have u4:w5.cell? ⟨w.heap.size,4,none⟩=some (.slice x.mA x.ms.length x.mc):=jO.cell 4
 have u5:w5.cell? ⟨w.heap.size,5,none⟩=some (.int .u64 x.fl):=jO.cell 5
 clear jO q5
 go_wp2_with fail
 refine(Dp.out _ cO.out).mono ?_
 rintro e w6 ⟨rfl,hk6⟩
 have yD:=ah (WS.kept (G:=aj) dS.out hk6);have jY:=ah (cO.out.then hk6);clear hk6 u3 u4 u5
 have hll:=bH (n:=l.length) (by have:=tq.out.1;omega)
 have lM:=ah hll;clear hll
 have r0:w6.cell? ⟨w.heap.size,6,none⟩=some (.slice A l.length x.lc):=nX.out _ (yD.out.has (List.mem_singleton.2 rfl))
 go_wp2_with fail
 go_region_held3 (fun W=>W.cell? ⟨w.heap.size,6,none⟩=some (.slice A l.length x.lc)) (first|with_reducible exact r2|with_reducible exact r1|with_reducible exact r0|(simp[go_sem,r0];done))
  (first
   |(go_at_call 118;refine(gX (by exact qQ.out) l.length (by have:=tq.out.1;omega) (by have:=HH.out.1;have:=lD.out;have:=jr lD.out (by omega);simp;omega)).mono ?_;rintro e v2 ⟨rfl,hv,hd⟩;have r2:v2.cell? ⟨w.heap.size,6,none⟩=some (.slice A l.length x.lc):=nX.out _ (hv.has (List.mem_singleton.2 rfl));have rW:=ah hv;have HD2:=ah hd;clear hv hd)
   |(go_at_call 120;refine(pz (by exact yD.out) s (by have:=HH.out.1;have:=lD.out;omega)).mono ?_;rintro e v1 ⟨rfl,hv,hd⟩;have r1:v1.cell? ⟨w.heap.size,6,none⟩=some (.slice A l.length x.lc):=nX.out _ (hv.has (List.mem_singleton.2 rfl));have qQ:=ah hv;have HD1:=ah hd;clear hv hd))
 have iC:Kept aj w v2:=behind (behind (by(repeat'(first|(with_reducible first|exact ak|apply au|apply ay|apply aA|apply aB)|(with_reducible exact jY.out)|(right;simp;done)))) HD1.out jk.out) HD2.out jk.out
 have uZ:=ah iC
 clear iC r0 r1 qQ HD1 HD2
 have hb:(put 1++dK s++put l.length).length<=1000:=by
  have h1:=HH.out.1
  have h2:=lM.out
  have h3:=jr lD.out (by omega)
  simp only[List.length_append]
  omega
 obtain⟨hdr,sZ⟩:∃hdr,put 1++dK s++put l.length=hdr:=⟨_,rfl⟩
 have hv2:=rW.out
 rw[sZ]at hv2 hb
 have rW:=ah hv2;have Ky:=ah (And.intro sZ hb);clear hv2 sZ hb
 have r2':=nX.out _ (rW.out.has (List.mem_singleton.2 rfl))
 go_wp2
 go_loopw [54] (fun v wr=>∃i:Nat,i<=l.length/\v=.int .i64 i/\WS w2.heap.size wr g (hdr++(l.take i).flatMap (fun i:Int=>put i.toNat)) [(w.heap.size,83,(aJ x).toArray)]/\Kept aj w wr) (fun v _=>l.length-(intOf v).toNat)
 case atStart=>exact⟨0,Nat.zero_le _,rfl,by rw[List.take_zero,List.flatMap_nil,List.append_nil];exact rW.out,uZ.out⟩
 case round=>
  obtain⟨i,hi,rfl,hws,hk⟩:=hrel
  have HK:=ah hk;clear hk
  have hnl:=tq.out.1
  by_cases hil:i<l.length
  ·obtain⟨y,hy⟩:∃y,l[i]? =some y:=⟨_,List.getElem?_eq_getElem hil⟩
   have hyi:l[i]=y:=by rw[List.getElem?_eq_getElem hil]at hy;exact Option.some.inj hy
   have hyb:=tq.out.2 y (List.mem_of_getElem? hy)
   have iF:=qP (fun i:Int=>put i.toNat) l i hil
   rw[hyi]at iF
   have hfl:=nR (fun i:Int=>put i.toNat) (l.take i) 9 (fun y hy2=>by
    have b:=tq.out.2 y (List.mem_of_mem_take hy2)
    exact bH (by omega))
   have hmin:(l.take i).length<=4:=by rw[List.length_take];omega
   have pW:(hdr++(l.take i).flatMap (fun i:Int=>put i.toNat)).length<=2000:=by rw[List.length_append];have:=Ky.out.2;omega
   obtain⟨cur,hcur⟩:∃cur,hdr++(l.take i).flatMap (fun i:Int=>put i.toNat)=cur:=⟨_,rfl⟩
   rw[hcur]at hws pW
   obtain⟨ad,rfl,had,e0⟩:=nU (xJ.out.kept HK.out (fun _ _ z=>z)) (by omega) i y hy
   obtain⟨n,rfl⟩:∃n:Nat,y=n:=⟨y.toNat,by omega⟩
   have hnext:hdr++(l.take (i+1)).flatMap (fun i:Int=>put i.toNat)=cur++put n:=by
    rw[iF,<-List.append_assoc,hcur,Int.toNat_natCast]
   have nV:=ah hnext;have jy:=ah pW;have HYB:=ah hyb;have yG:=ah hws
   clear hnext iF hfl hcur hmin hy hyi hyb pW hws
   go_wp2_with fail
   refine(gX yG.out n (by have:=HYB.out;omega) (by have:=jy.out;omega)).mono ?_
   rintro e w8 ⟨rfl,hw8,hb8⟩
   rw[<-nV.out]at hw8
   have HW8:=ah hw8;have vg:=ah (behind HK.out hb8 jk.out);clear hw8 hb8
   go_wp2
   go_roundw
   case rel=>exact⟨i+1,by omega,by go_num,HW8.out,vg.out⟩
   case measure=>simp[intOf];omega
  ·obtain rfl:i=l.length:=by omega
   rw[List.take_length,<-Ky.out.1]at hws
   have uz:=ah hws;clear hws
   have aep:=HK
   clear uZ
   have uZ:=aep
   clear aep
   go_wp2_with fail
   refine(pF uz.out (by have:=HH.out.2;simp;intro h;exact absurd h this)).mono ?_
   rintro e wf ⟨rfl,hbf⟩
   have wJ:=ah (behind uZ.out hbf jk.out);clear hbf
   go_wp2
   go_ret2
   exact⟨by simp only[List.append_assoc];rfl,wJ.out⟩
theorem NV(h:iI w x)(hu:NU x):Calls Tryz.prog 62 #[fE x] w fun e w'=>e=.returned (.tuple #[.string (kT x),.int .i64 (aQ x)])/\Kept aj w w':=by
 unfold kT
 by_cases h0:aQ x=0
 ·rw[if_pos h0,h0]
  have hk:x.k=1\/x.k=2\/x.k=3\/x.k=4\/x.k=5\/x.k=6\/x.k=7\/x.k=8:=by
   unfold aQ at h0
   by_cases h1:x.k=1;exact .inl h1
   by_cases h2:x.k=2;exact .inr (.inl h2)
   rw[if_neg h1,if_neg h2]at h0
   by_cases h3:x.k=3\/x.k=4\/x.k=5\/x.k=7;omega
   rw[if_neg h3]at h0
   by_cases h6:x.k=6;omega
   rw[if_neg h6]at h0
   by_cases h8:x.k=8;omega
   rw[if_neg h8]at h0
   cases h0
  rcases hk with hk|hk|hk|hk|hk|hk|hk|hk
  ·exact aeo h h0 hu hk
  ·exact aen h h0 hu hk
  ·exact aek h h0 hu hk
  ·exact aej h h0 hu hk
  ·exact aeh h h0 hu hk
  ·exact ael h h0 hu hk
  ·exact aei h h0 hu hk
  ·exact aem h h0 hu hk
 ·rw[if_neg h0]
  exact aao h h0
end
end mY
end Go.Proofs.YtfjdpbbgfjhnlaaGreat

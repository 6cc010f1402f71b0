/- Part 8. -/
import Derived.Test.YtomccaocggplgaaGreatMP06
set_option linter.unusedSimpArgs false
set_option linter.unusedVariables false
set_option maxHeartbeats 32000000
set_option maxRecDepth 100000
namespace Go.Proofs.YtomccaocggplgaaGreat
open Go.RowKit Go.Shelf
namespace kK
open aJ Ops yt Vn nM Mst gu
def yE(x:aG):lW:=⟨x.b.cl,x.b.req,x.oA,x.oc,x.b.ops,x.ts⟩
def jg(x:aG):List UInt8:=put x.k.toNat++
 (if x.k=1 then dR (kV x.ep x.ms x.fl)++put x.lg.length++x.lg.flatMap (fun i=>put i.toNat)
 else if x.k=2 then put x.n.toNat++dR (oz (yE x))
 else if x.k=3 then put x.n.toNat++put x.at'.toNat
 else if x.k=4 then put x.at'.toNat++put x.n.toNat
 else if x.k=6 then put x.pin.id.toNat++put x.pin.at'.toNat++put x.pin.left.toNat
 else if x.k=8 then put x.said.cl.toNat++put x.said.req.toNat++put x.said.e.toNat++put x.said.pin.toNat
 else put x.n.toNat)
def lK(x:aG):ByteArray:=if aT x=0 then bI (jg x)else emp
def NU(x:aG):Prop:=(0<=x.at'/\x.at'<=aW)/\(0<=x.pin.at'/\x.pin.at'<=aW)/\(0<=x.fl/\x.fl<=aW)/\(0<=x.ts/\x.ts<=aW)
theorem nX{x:Int}(h:iG [x]=0):0<=x/\x<=1073741824:=by
 unfold iG kJ xZ at h;by_cases hr:x<0\/1073741824<x
 ·rw[if_pos hr]at h;simp at h
 ·omega
theorem wE{x y:Int}(h:iG [x,y]=0):(0<=x/\x<=1073741824)/\(0<=y/\y<=1073741824):=by
 unfold iG kJ kJ xZ at h;by_cases hr:x<0\/1073741824<x
 ·rw[if_pos hr]at h;simp at h
 ·rw[if_neg hr,if_pos rfl]at h;by_cases hs:y<0\/1073741824<y
  ·rw[if_pos hs]at h;simp at h
  ·omega
theorem Kw{a:kP}(h:saidE a=0):(0<=a.cl/\a.cl<3)/\(0<=a.req/\a.req<=1073741824)/\(0<=a.e/\a.e<=21)/\(0<=a.pin/\a.pin<=1073741824):=by
 unfold saidE at h;by_cases h1:a.cl<0\/3<=a.cl
 ·rw[if_pos h1]at h;cases h
 rw[if_neg h1]at h;by_cases h2:iG [a.req,a.pin]≠0
 ·rw[if_pos h2]at h;exact absurd h h2
 rw[if_neg h2]at h;have h3:=wE (Classical.not_not.1 h2);by_cases h4:a.e<0\/21<a.e
 ·rw[if_pos h4]at h;cases h
 omega
theorem IY{l:List Int}(h:nO l=0):l.length<=4/\∀y∈l,0<=y/\y<4:=by
 unfold nO at h;by_cases h1:4<l.length
 ·rw[if_pos h1]at h;cases h
 rw[if_neg h1]at h;refine⟨by omega,?_⟩;have key:∀(f:Nat->Int->Int) (l:List Int) (i:Nat),kJ f l i=0->∀y∈l,∃j,f j y=0:=by
  intro f l;induction l with
  |nil=>intro i _ y hy;cases hy
  |cons a l ih=>
   intro i h0 y hy;rw[kJ]at h0;by_cases ha:f i a=0
   ·rw[if_pos ha]at h0;rcases List.mem_cons.1 hy with rfl|hy
    ·exact⟨i,ha⟩
    ·exact ih _ h0 y hy
   ·rw[if_neg ha]at h0;exact absurd h0 ha
 intro y hy;obtain⟨j,hj⟩:=key _ l 0 h y hy;unfold wu at hj;by_cases h2:y<0\/4<=y
 ·rw[if_pos h2]at hj;cases hj
 ·omega
section
variable{w:World}{x:aG}
theorem aa4(h:iR w x)(h0:aT x≠0):Calls Tryz.prog 56 #[fU x] w fun e w'=>e=.returned (.tuple #[.string emp,.int .i64 (aT x)])/\Kept aj w w':=by
 obtain⟨W0,hW0⟩:∃W0,w.alloc (.cells (aK x).toArray 78)=W0:=⟨_,rfl⟩;have hk0:Kept aj w W0:=by rw[<-hW0];(repeat'(first|(with_reducible first|exact ak|apply au|apply ay|apply aA|apply aB)|(right;simp;done)))
 have hn0:Has W0 w.heap.size 78 (aK x).toArray:=by rw[<-hW0];exact Has.new _ _ _
 have fC:=fB W0 x (h.kept hk0);obtain⟨z,hz⟩:∃z,aT x=z:=⟨_,rfl⟩;rw[hz]at fC h0⊢;have h2:(z !=0)=true:=by simpa using h0
 have bf:=ah hk0;have dW:=ah hn0;have HC:=ah fC;clear hk0 hn0 fC h h0 hz;go_enter Tryz.func56,Tryz.ntmps56;go_wp2_with (refine wpList_load_row rfl 78 (.tmp 1) rfl w.heap.size rfl 78 _ (0,0) _ dW.out Tryz.underlying78 rfl (by kernel_rfl) ?_);clear hW0;refine HC.out.mono ?_;rintro e w2 ⟨rfl,hk⟩;have HK:=ah (bf.out.then hk);clear hk;go_wp2;go_ret2;exact⟨rfl,HK.out⟩
theorem afa(h:iR w x)(h0:aT x=0)(hu:NU x)(hk:x.k=5):Calls Tryz.prog 56 #[fU x] w fun e w'=>e=.returned (.tuple #[.string (bI (jg x)),.int .i64 0])/\Kept aj w w':=by
 have hP:jg x=put 5++(put x.n.toNat):=by unfold jg;rw[hk];rfl
 rw[hP];obtain⟨W0,hW0⟩:∃W0,w.alloc (.cells (aK x).toArray 78)=W0:=⟨_,rfl⟩;have hk0:Kept aj w W0:=by rw[<-hW0];(repeat'(first|(with_reducible first|exact ak|apply au|apply ay|apply aA|apply aB)|(right;simp;done)))
 have hn0:Has W0 w.heap.size 78 (aK x).toArray:=by rw[<-hW0];exact Has.new _ _ _
 have fC:=fB W0 x (h.kept hk0);rw[h0]at fC;have hq:∀W,Has W w.heap.size 78 (aK x).toArray->W.cell? ⟨w.heap.size,0,none⟩=some (.int .i64 5):=fun W hW=>by have h0:W.cell? ⟨w.heap.size,0,none⟩=some (.int .i64 x.k):=hW.cell 0;rw[hk]at h0;exact h0
 have hz:iG [x.n]=0:=by unfold aT at h0;rw[hk]at h0;exact h0
 obtain⟨n,hn⟩:∃n:Nat,x.n=n:=⟨(x.n).toNat,by have:=nX hz;omega⟩;have hcn:∀W,Has W w.heap.size 78 (aK x).toArray->W.cell? ⟨w.heap.size,1,none⟩=some (.int .i64 (n:Int)):=fun W hW=>by have h0:W.cell? ⟨w.heap.size,1,none⟩=some (.int .i64 (x.n)):=hW.cell 1;rw[hn]at h0;exact h0
 have hbn:=nX hz;rw[hn]at hbn⊢;rw[Int.toNat_natCast];have yu:=ah hcn;have zN:=ah hbn;clear hcn hbn hn;clear hz;have HC:=ah fC;have HQ:=ah hq;have bf:=ah hk0;have dW:=ah hn0;have HX:=ah h;have HU:=ah hu;clear fC hq hk0 hn0 h hu h0 hP hk;go_enter Tryz.func56,Tryz.ntmps56;go_wp2_with (refine wpList_load_row rfl 78 (.tmp 1) rfl w.heap.size rfl 78 _ (0,0) _ dW.out Tryz.underlying78 rfl (by kernel_rfl) ?_);clear hW0;refine HC.out.mono ?_;rintro e w2 ⟨rfl,hk2⟩;have dV:=ah (dW.out.kept hk2 (fun z=>z));have aV:=ah (bf.out.then hk2);clear hk2;have c0:=HQ.out _ dV.out
 have hnew:∀W,Has W w.heap.size 78 (aK x).toArray->Calls Tryz.prog 112 #[] W fun e w'=>∃g,e=.returned (.pointer (some ⟨g,0,none⟩))/\WS W.heap.size w' g [] [(w.heap.size,78,(aK x).toArray)]/\Kept aj W w':=
  fun W hW=>rV W _ (fun y hy=>by simp at hy;subst hy;exact hW)
 have gI:=ah hnew;clear hnew;go_wp2_with fail
 go_region_held3 (fun W=>W.cell? ⟨w.heap.size,0,none⟩=some (.int .i64 5)) (first|with_reducible exact q5|with_reducible exact q4|with_reducible exact c0|(simp[go_sem,c0];done))
  (first
   |(go_at_call 112;refine(gI.out _ (by exact dV.out)).mono ?_;rintro e w4 ⟨g,rfl,hw4,mJ⟩;have q4:=HQ.out _ (hw4.has (List.mem_singleton.2 rfl));have kW:=ah hw4;have mM:=ah mJ;clear hw4 mJ)
   |(go_at_call 113;refine(iI (by exact kW.out) 5 (by omega) (by simp)).mono ?_;rintro e w5 ⟨rfl,hw5,hb5⟩;have q5:=HQ.out _ (hw5.has (List.mem_singleton.2 rfl));have eF:=ah hw5;have jv:=ah hb5;clear hw5 hb5))
 have hk4:Kept aj w w4:=Kept.then (by(repeat'(first|(with_reducible first|exact ak|apply au|apply ay|apply aA|apply aB)|(with_reducible exact aV.out)|(right;simp;done)))) mM.out;have hle:w.heap.size<=w2.heap.size:=aV.out.size;have hk5:Kept aj w w5:=behind hk4 jv.out hle;have hw5:=eF.out;simp only[List.nil_append]at hw5;clear q4 c0 kW eF jv mM hk4 gI HC;have eF:=ah hw5;have dB:=ah hk5;have jw:=ah hle;clear hw5 hk5 hle;have hpl:=bH (n:=5) (by omega);have hne:put 5≠[]:=by intro e;have h1:=put_pos 5;rw[e]at h1;simp at h1
 have HH:=ah (And.intro hpl hne);clear hpl hne;have u1:=yu.out _ (eF.out.has (List.mem_singleton.2 rfl));go_wp2_with fail;refine(iI eF.out n (by have:=zN.out;omega) (by have:=HH.out.1;omega)).mono ?_;rintro e w6 ⟨rfl,hw6,hb6⟩;have uV:=ah hw6;have vS:=ah (behind dB.out hb6 jw.out);clear hw6 hb6 u1 q5;go_wp2_with fail;refine(pK uV.out (by have:=HH.out.2;simp;intro h;exact absurd h this)).mono ?_;rintro e wf ⟨rfl,hbf⟩;have xg:=ah (behind vS.out hbf jw.out);clear hbf;go_wp2;go_ret2;exact⟨by simp only[List.append_assoc];rfl,xg.out⟩
theorem afb(h:iR w x)(h0:aT x=0)(hu:NU x)(hk:x.k=7):Calls Tryz.prog 56 #[fU x] w fun e w'=>e=.returned (.tuple #[.string (bI (jg x)),.int .i64 0])/\Kept aj w w':=by
 have hP:jg x=put 7++(put x.n.toNat):=by unfold jg;rw[hk];rfl
 rw[hP];obtain⟨W0,hW0⟩:∃W0,w.alloc (.cells (aK x).toArray 78)=W0:=⟨_,rfl⟩;have hk0:Kept aj w W0:=by rw[<-hW0];(repeat'(first|(with_reducible first|exact ak|apply au|apply ay|apply aA|apply aB)|(right;simp;done)))
 have hn0:Has W0 w.heap.size 78 (aK x).toArray:=by rw[<-hW0];exact Has.new _ _ _
 have fC:=fB W0 x (h.kept hk0);rw[h0]at fC;have hq:∀W,Has W w.heap.size 78 (aK x).toArray->W.cell? ⟨w.heap.size,0,none⟩=some (.int .i64 7):=fun W hW=>by have h0:W.cell? ⟨w.heap.size,0,none⟩=some (.int .i64 x.k):=hW.cell 0;rw[hk]at h0;exact h0
 have hz:iG [x.n]=0:=by unfold aT at h0;rw[hk]at h0;exact h0
 obtain⟨n,hn⟩:∃n:Nat,x.n=n:=⟨(x.n).toNat,by have:=nX hz;omega⟩;have hcn:∀W,Has W w.heap.size 78 (aK x).toArray->W.cell? ⟨w.heap.size,1,none⟩=some (.int .i64 (n:Int)):=fun W hW=>by have h0:W.cell? ⟨w.heap.size,1,none⟩=some (.int .i64 (x.n)):=hW.cell 1;rw[hn]at h0;exact h0
 have hbn:=nX hz;rw[hn]at hbn⊢;rw[Int.toNat_natCast];have yu:=ah hcn;have zN:=ah hbn;clear hcn hbn hn;clear hz;have HC:=ah fC;have HQ:=ah hq;have bf:=ah hk0;have dW:=ah hn0;have HX:=ah h;have HU:=ah hu;clear fC hq hk0 hn0 h hu h0 hP hk;go_enter Tryz.func56,Tryz.ntmps56;go_wp2_with (refine wpList_load_row rfl 78 (.tmp 1) rfl w.heap.size rfl 78 _ (0,0) _ dW.out Tryz.underlying78 rfl (by kernel_rfl) ?_);clear hW0;refine HC.out.mono ?_;rintro e w2 ⟨rfl,hk2⟩;have dV:=ah (dW.out.kept hk2 (fun z=>z));have aV:=ah (bf.out.then hk2);clear hk2;have c0:=HQ.out _ dV.out
 have hnew:∀W,Has W w.heap.size 78 (aK x).toArray->Calls Tryz.prog 112 #[] W fun e w'=>∃g,e=.returned (.pointer (some ⟨g,0,none⟩))/\WS W.heap.size w' g [] [(w.heap.size,78,(aK x).toArray)]/\Kept aj W w':=
  fun W hW=>rV W _ (fun y hy=>by simp at hy;subst hy;exact hW)
 have gI:=ah hnew;clear hnew;go_wp2_with fail
 go_region_held3 (fun W=>W.cell? ⟨w.heap.size,0,none⟩=some (.int .i64 7)) (first|with_reducible exact q5|with_reducible exact q4|with_reducible exact c0|(simp[go_sem,c0];done))
  (first
   |(go_at_call 112;refine(gI.out _ (by exact dV.out)).mono ?_;rintro e w4 ⟨g,rfl,hw4,mJ⟩;have q4:=HQ.out _ (hw4.has (List.mem_singleton.2 rfl));have kW:=ah hw4;have mM:=ah mJ;clear hw4 mJ)
   |(go_at_call 113;refine(iI (by exact kW.out) 7 (by omega) (by simp)).mono ?_;rintro e w5 ⟨rfl,hw5,hb5⟩;have q5:=HQ.out _ (hw5.has (List.mem_singleton.2 rfl));have eF:=ah hw5;have jv:=ah hb5;clear hw5 hb5))
 have hk4:Kept aj w w4:=Kept.then (by(repeat'(first|(with_reducible first|exact ak|apply au|apply ay|apply aA|apply aB)|(with_reducible exact aV.out)|(right;simp;done)))) mM.out;have hle:w.heap.size<=w2.heap.size:=aV.out.size;have hk5:Kept aj w w5:=behind hk4 jv.out hle;have hw5:=eF.out;simp only[List.nil_append]at hw5;clear q4 c0 kW eF jv mM hk4 gI HC;have eF:=ah hw5;have dB:=ah hk5;have jw:=ah hle;clear hw5 hk5 hle;have hpl:=bH (n:=7) (by omega);have hne:put 7≠[]:=by intro e;have h1:=put_pos 7;rw[e]at h1;simp at h1
 have HH:=ah (And.intro hpl hne);clear hpl hne;have u1:=yu.out _ (eF.out.has (List.mem_singleton.2 rfl));go_wp2_with fail;refine(iI eF.out n (by have:=zN.out;omega) (by have:=HH.out.1;omega)).mono ?_;rintro e w6 ⟨rfl,hw6,hb6⟩;have uV:=ah hw6;have vS:=ah (behind dB.out hb6 jw.out);clear hw6 hb6 u1 q5;go_wp2_with fail;refine(pK uV.out (by have:=HH.out.2;simp;intro h;exact absurd h this)).mono ?_;rintro e wf ⟨rfl,hbf⟩;have xg:=ah (behind vS.out hbf jw.out);clear hbf;go_wp2;go_ret2;exact⟨by simp only[List.append_assoc];rfl,xg.out⟩
theorem afc(h:iR w x)(h0:aT x=0)(hu:NU x)(hk:x.k=4):Calls Tryz.prog 56 #[fU x] w fun e w'=>e=.returned (.tuple #[.string (bI (jg x)),.int .i64 0])/\Kept aj w w':=by
 have hP:jg x=put 4++(put x.at'.toNat++put x.n.toNat):=by unfold jg;rw[hk];rfl
 rw[hP];obtain⟨W0,hW0⟩:∃W0,w.alloc (.cells (aK x).toArray 78)=W0:=⟨_,rfl⟩;have hk0:Kept aj w W0:=by rw[<-hW0];(repeat'(first|(with_reducible first|exact ak|apply au|apply ay|apply aA|apply aB)|(right;simp;done)))
 have hn0:Has W0 w.heap.size 78 (aK x).toArray:=by rw[<-hW0];exact Has.new _ _ _
 have fC:=fB W0 x (h.kept hk0);rw[h0]at fC;have hq:∀W,Has W w.heap.size 78 (aK x).toArray->W.cell? ⟨w.heap.size,0,none⟩=some (.int .i64 4):=fun W hW=>by have h0:W.cell? ⟨w.heap.size,0,none⟩=some (.int .i64 x.k):=hW.cell 0;rw[hk]at h0;exact h0
 have hz:iG [x.n]=0:=by unfold aT at h0;rw[hk]at h0;exact h0
 obtain⟨n,hn⟩:∃n:Nat,x.n=n:=⟨(x.n).toNat,by have:=nX hz;omega⟩;have hcn:∀W,Has W w.heap.size 78 (aK x).toArray->W.cell? ⟨w.heap.size,1,none⟩=some (.int .i64 (n:Int)):=fun W hW=>by have h0:W.cell? ⟨w.heap.size,1,none⟩=some (.int .i64 (x.n)):=hW.cell 1;rw[hn]at h0;exact h0
 have hbn:=nX hz;rw[hn]at hbn⊢;rw[Int.toNat_natCast];have yu:=ah hcn;have zN:=ah hbn;clear hcn hbn hn;have hat:0<=x.at'/\x.at'<=18446744073709551615:=hu.1;obtain⟨a,ha⟩:∃n:Nat,x.at'=n:=⟨(x.at').toNat,by have:=hat;omega⟩;have hca:∀W,Has W w.heap.size 78 (aK x).toArray->W.cell? ⟨w.heap.size,2,none⟩=some (.int .u64 (a:Int)):=fun W hW=>by have h0:W.cell? ⟨w.heap.size,2,none⟩=some (.int .u64 (x.at')):=hW.cell 2;rw[ha]at h0;exact h0
 have hba:=hat;rw[ha]at hba⊢;rw[Int.toNat_natCast];have yw:=ah hca;have Es:=ah hba;clear hca hba ha;clear hz hat;have HC:=ah fC;have HQ:=ah hq;have bf:=ah hk0;have dW:=ah hn0;have HX:=ah h;have HU:=ah hu;clear fC hq hk0 hn0 h hu h0 hP hk;go_enter Tryz.func56,Tryz.ntmps56;go_wp2_with (refine wpList_load_row rfl 78 (.tmp 1) rfl w.heap.size rfl 78 _ (0,0) _ dW.out Tryz.underlying78 rfl (by kernel_rfl) ?_);clear hW0;refine HC.out.mono ?_;rintro e w2 ⟨rfl,hk2⟩;have dV:=ah (dW.out.kept hk2 (fun z=>z));have aV:=ah (bf.out.then hk2);clear hk2;have c0:=HQ.out _ dV.out
 have hnew:∀W,Has W w.heap.size 78 (aK x).toArray->Calls Tryz.prog 112 #[] W fun e w'=>∃g,e=.returned (.pointer (some ⟨g,0,none⟩))/\WS W.heap.size w' g [] [(w.heap.size,78,(aK x).toArray)]/\Kept aj W w':=
  fun W hW=>rV W _ (fun y hy=>by simp at hy;subst hy;exact hW)
 have gI:=ah hnew;clear hnew;go_wp2_with fail
 go_region_held3 (fun W=>W.cell? ⟨w.heap.size,0,none⟩=some (.int .i64 4)) (first|with_reducible exact q5|with_reducible exact q4|with_reducible exact c0|(simp[go_sem,c0];done))
  (first
   |(go_at_call 112;refine(gI.out _ (by exact dV.out)).mono ?_;rintro e w4 ⟨g,rfl,hw4,mJ⟩;have q4:=HQ.out _ (hw4.has (List.mem_singleton.2 rfl));have kW:=ah hw4;have mM:=ah mJ;clear hw4 mJ)
   |(go_at_call 113;refine(iI (by exact kW.out) 4 (by omega) (by simp)).mono ?_;rintro e w5 ⟨rfl,hw5,hb5⟩;have q5:=HQ.out _ (hw5.has (List.mem_singleton.2 rfl));have eF:=ah hw5;have jv:=ah hb5;clear hw5 hb5))
 have hk4:Kept aj w w4:=Kept.then (by(repeat'(first|(with_reducible first|exact ak|apply au|apply ay|apply aA|apply aB)|(with_reducible exact aV.out)|(right;simp;done)))) mM.out;have hle:w.heap.size<=w2.heap.size:=aV.out.size;have hk5:Kept aj w w5:=behind hk4 jv.out hle;have hw5:=eF.out;simp only[List.nil_append]at hw5;clear q4 c0 kW eF jv mM hk4 gI HC;have eF:=ah hw5;have dB:=ah hk5;have jw:=ah hle;clear hw5 hk5 hle;have hpl:=bH (n:=4) (by omega);have hne:put 4≠[]:=by intro e;have h1:=put_pos 4;rw[e]at h1;simp at h1
 have HH:=ah (And.intro hpl hne);clear hpl hne;have u1:=yw.out _ (eF.out.has (List.mem_singleton.2 rfl));go_wp2_with fail;refine(yD eF.out a (by have:=Es.out;omega) (by have:=HH.out.1;omega)).mono ?_;rintro e w6 ⟨rfl,hw6,hb6⟩;have yZ:=ah hw6;have kQ:=ah (behind dB.out hb6 jw.out);clear hw6 hb6 u1 q5;have u1:=yu.out _ (yZ.out.has (List.mem_singleton.2 rfl));go_wp2_with fail;refine(iI yZ.out n (by have:=zN.out;omega) (by have:=HH.out.1;have:=bH (n:=a) (by have:=Es.out;omega);simp;omega)).mono ?_;rintro e w7 ⟨rfl,hw7,hb7⟩;have uV:=ah hw7;have vS:=ah (behind kQ.out hb7 jw.out);clear hw7 hb7 u1;go_wp2_with fail;refine(pK uV.out (by have:=HH.out.2;simp;intro h;exact absurd h this)).mono ?_;rintro e wf ⟨rfl,hbf⟩;have xg:=ah (behind vS.out hbf jw.out);clear hbf;go_wp2;go_ret2;exact⟨by simp only[List.append_assoc];rfl,xg.out⟩
theorem afd(h:iR w x)(h0:aT x=0)(hu:NU x)(hk:x.k=3):Calls Tryz.prog 56 #[fU x] w fun e w'=>e=.returned (.tuple #[.string (bI (jg x)),.int .i64 0])/\Kept aj w w':=by
 have hP:jg x=put 3++(put x.n.toNat++put x.at'.toNat):=by unfold jg;rw[hk];rfl
 rw[hP];obtain⟨W0,hW0⟩:∃W0,w.alloc (.cells (aK x).toArray 78)=W0:=⟨_,rfl⟩;have hk0:Kept aj w W0:=by rw[<-hW0];(repeat'(first|(with_reducible first|exact ak|apply au|apply ay|apply aA|apply aB)|(right;simp;done)))
 have hn0:Has W0 w.heap.size 78 (aK x).toArray:=by rw[<-hW0];exact Has.new _ _ _
 have fC:=fB W0 x (h.kept hk0);rw[h0]at fC;have hq:∀W,Has W w.heap.size 78 (aK x).toArray->W.cell? ⟨w.heap.size,0,none⟩=some (.int .i64 3):=fun W hW=>by have h0:W.cell? ⟨w.heap.size,0,none⟩=some (.int .i64 x.k):=hW.cell 0;rw[hk]at h0;exact h0
 have hz:iG [x.n]=0:=by unfold aT at h0;rw[hk]at h0;exact h0
 obtain⟨n,hn⟩:∃n:Nat,x.n=n:=⟨(x.n).toNat,by have:=nX hz;omega⟩;have hcn:∀W,Has W w.heap.size 78 (aK x).toArray->W.cell? ⟨w.heap.size,1,none⟩=some (.int .i64 (n:Int)):=fun W hW=>by have h0:W.cell? ⟨w.heap.size,1,none⟩=some (.int .i64 (x.n)):=hW.cell 1;rw[hn]at h0;exact h0
 have hbn:=nX hz;rw[hn]at hbn⊢;rw[Int.toNat_natCast];have yu:=ah hcn;have zN:=ah hbn;clear hcn hbn hn;have hat:0<=x.at'/\x.at'<=18446744073709551615:=hu.1;obtain⟨a,ha⟩:∃n:Nat,x.at'=n:=⟨(x.at').toNat,by have:=hat;omega⟩;have hca:∀W,Has W w.heap.size 78 (aK x).toArray->W.cell? ⟨w.heap.size,2,none⟩=some (.int .u64 (a:Int)):=fun W hW=>by have h0:W.cell? ⟨w.heap.size,2,none⟩=some (.int .u64 (x.at')):=hW.cell 2;rw[ha]at h0;exact h0
 have hba:=hat;rw[ha]at hba⊢;rw[Int.toNat_natCast];have yw:=ah hca;have Es:=ah hba;clear hca hba ha;clear hz hat;have HC:=ah fC;have HQ:=ah hq;have bf:=ah hk0;have dW:=ah hn0;have HX:=ah h;have HU:=ah hu;clear fC hq hk0 hn0 h hu h0 hP hk;go_enter Tryz.func56,Tryz.ntmps56;go_wp2_with (refine wpList_load_row rfl 78 (.tmp 1) rfl w.heap.size rfl 78 _ (0,0) _ dW.out Tryz.underlying78 rfl (by kernel_rfl) ?_);clear hW0;refine HC.out.mono ?_;rintro e w2 ⟨rfl,hk2⟩;have dV:=ah (dW.out.kept hk2 (fun z=>z));have aV:=ah (bf.out.then hk2);clear hk2;have c0:=HQ.out _ dV.out
 have hnew:∀W,Has W w.heap.size 78 (aK x).toArray->Calls Tryz.prog 112 #[] W fun e w'=>∃g,e=.returned (.pointer (some ⟨g,0,none⟩))/\WS W.heap.size w' g [] [(w.heap.size,78,(aK x).toArray)]/\Kept aj W w':=
  fun W hW=>rV W _ (fun y hy=>by simp at hy;subst hy;exact hW)
 have gI:=ah hnew;clear hnew;go_wp2_with fail
 go_region_held3 (fun W=>W.cell? ⟨w.heap.size,0,none⟩=some (.int .i64 3)) (first|with_reducible exact q5|with_reducible exact q4|with_reducible exact c0|(simp[go_sem,c0];done))
  (first
   |(go_at_call 112;refine(gI.out _ (by exact dV.out)).mono ?_;rintro e w4 ⟨g,rfl,hw4,mJ⟩;have q4:=HQ.out _ (hw4.has (List.mem_singleton.2 rfl));have kW:=ah hw4;have mM:=ah mJ;clear hw4 mJ)
   |(go_at_call 113;refine(iI (by exact kW.out) 3 (by omega) (by simp)).mono ?_;rintro e w5 ⟨rfl,hw5,hb5⟩;have q5:=HQ.out _ (hw5.has (List.mem_singleton.2 rfl));have eF:=ah hw5;have jv:=ah hb5;clear hw5 hb5))
 have hk4:Kept aj w w4:=Kept.then (by(repeat'(first|(with_reducible first|exact ak|apply au|apply ay|apply aA|apply aB)|(with_reducible exact aV.out)|(right;simp;done)))) mM.out;have hle:w.heap.size<=w2.heap.size:=aV.out.size;have hk5:Kept aj w w5:=behind hk4 jv.out hle;have hw5:=eF.out;simp only[List.nil_append]at hw5;clear q4 c0 kW eF jv mM hk4 gI HC;have eF:=ah hw5;have dB:=ah hk5;have jw:=ah hle;clear hw5 hk5 hle;have hpl:=bH (n:=3) (by omega);have hne:put 3≠[]:=by intro e;have h1:=put_pos 3;rw[e]at h1;simp at h1
 have HH:=ah (And.intro hpl hne);clear hpl hne;have ln:=bH (n:=n) (by have:=zN.out;omega);have la:=bH (n:=a) (by have:=Es.out;omega);have mO:=ah (And.intro ln (la));clear ln la;have r0:w5.cell? ⟨w.heap.size,1,none⟩=some (.int .i64 (n:Int))/\w5.cell? ⟨w.heap.size,2,none⟩=some (.int .u64 (a:Int)):=⟨yu.out _ (eF.out.has (List.mem_singleton.2 rfl)),yw.out _ (eF.out.has (List.mem_singleton.2 rfl))⟩;clear q5;go_wp2_with fail
 go_region_held3 (fun W=>W.cell? ⟨w.heap.size,1,none⟩=some (.int .i64 (n:Int))/\W.cell? ⟨w.heap.size,2,none⟩=some (.int .u64 (a:Int))) (first|with_reducible exact r2|with_reducible exact r1|with_reducible exact r0|(simp[go_sem,r0];done))
  (first
   |(have hx:=ru;clear hx;go_at_call 117;refine(yD (by exact ru.out) a (by have:=Es.out;omega) (by have:=HH.out.1;have:=mO.out;simp;omega)).mono ?_;rintro e v2 ⟨rfl,hv,hd⟩;have r2:v2.cell? ⟨w.heap.size,1,none⟩=some (.int .i64 (n:Int))/\v2.cell? ⟨w.heap.size,2,none⟩=some (.int .u64 (a:Int)):=⟨yu.out _ (hv.has (List.mem_singleton.2 rfl)),yw.out _ (hv.has (List.mem_singleton.2 rfl))⟩;have sH:=ah hv;have HD2:=ah hd;clear hv hd)
   |(have hx:=eF;clear hx;go_at_call 113;refine(iI (by exact eF.out) n (by have:=zN.out;omega) (by have:=HH.out.1;have:=mO.out;simp;omega)).mono ?_;rintro e v1 ⟨rfl,hv,hd⟩;have r1:v1.cell? ⟨w.heap.size,1,none⟩=some (.int .i64 (n:Int))/\v1.cell? ⟨w.heap.size,2,none⟩=some (.int .u64 (a:Int)):=⟨yu.out _ (hv.has (List.mem_singleton.2 rfl)),yw.out _ (hv.has (List.mem_singleton.2 rfl))⟩;have ru:=ah hv;have HD1:=ah hd;clear hv hd))
 have iM:Kept aj w v2:=behind (behind (by(repeat'(first|(with_reducible first|exact ak|apply au|apply ay|apply aA|apply aB)|(with_reducible exact dB.out)|(right;simp;done)))) HD1.out jw.out) HD2.out jw.out;have uV:=ah sH.out;have vS:=ah iM;clear iM r0 r1 r2 ru sH HD1 HD2;go_wp2_with fail;refine(pK uV.out (by have:=HH.out.2;simp;intro h;exact absurd h this)).mono ?_;rintro e wf ⟨rfl,hbf⟩;have xg:=ah (behind vS.out hbf jw.out);clear hbf;go_wp2;go_ret2;exact⟨by simp only[List.append_assoc];rfl,xg.out⟩
theorem afe(h:iR w x)(h0:aT x=0)(hu:NU x)(hk:x.k=6):Calls Tryz.prog 56 #[fU x] w fun e w'=>e=.returned (.tuple #[.string (bI (jg x)),.int .i64 0])/\Kept aj w w':=by
 have hP:jg x=put 6++(put x.pin.id.toNat++put x.pin.at'.toNat++put x.pin.left.toNat):=by unfold jg;rw[hk];rfl
 rw[hP];obtain⟨W0,hW0⟩:∃W0,w.alloc (.cells (aK x).toArray 78)=W0:=⟨_,rfl⟩;have hk0:Kept aj w W0:=by rw[<-hW0];(repeat'(first|(with_reducible first|exact ak|apply au|apply ay|apply aA|apply aB)|(right;simp;done)))
 have hn0:Has W0 w.heap.size 78 (aK x).toArray:=by rw[<-hW0];exact Has.new _ _ _
 have fC:=fB W0 x (h.kept hk0);rw[h0]at fC;have hq:∀W,Has W w.heap.size 78 (aK x).toArray->W.cell? ⟨w.heap.size,0,none⟩=some (.int .i64 6):=fun W hW=>by have h0:W.cell? ⟨w.heap.size,0,none⟩=some (.int .i64 x.k):=hW.cell 0;rw[hk]at h0;exact h0
 have hz:iG [x.pin.id,x.pin.left]=0:=by unfold aT at h0;rw[hk]at h0;exact h0
 obtain⟨n,hn⟩:∃n:Nat,x.pin.id=n:=⟨(x.pin.id).toNat,by have:=(wE hz).1;omega⟩;have hcn:∀W,Has W w.heap.size 78 (aK x).toArray->W.cell? ⟨w.heap.size,11,none⟩=some (.int .i64 (n:Int)):=fun W hW=>by have h0:W.cell? ⟨w.heap.size,11,none⟩=some (.int .i64 (x.pin.id)):=hW.cell 11;rw[hn]at h0;exact h0
 have hbn:=(wE hz).1;rw[hn]at hbn⊢;rw[Int.toNat_natCast];have yu:=ah hcn;have zN:=ah hbn;clear hcn hbn hn;have hat:0<=x.pin.at'/\x.pin.at'<=18446744073709551615:=hu.2.1;obtain⟨a,ha⟩:∃n:Nat,x.pin.at'=n:=⟨(x.pin.at').toNat,by have:=hat;omega⟩;have hca:∀W,Has W w.heap.size 78 (aK x).toArray->W.cell? ⟨w.heap.size,12,none⟩=some (.int .u64 (a:Int)):=fun W hW=>by have h0:W.cell? ⟨w.heap.size,12,none⟩=some (.int .u64 (x.pin.at')):=hW.cell 12;rw[ha]at h0;exact h0
 have hba:=hat;rw[ha]at hba⊢;rw[Int.toNat_natCast];have yw:=ah hca;have Es:=ah hba;clear hca hba ha;obtain⟨m,hm⟩:∃n:Nat,x.pin.left=n:=⟨(x.pin.left).toNat,by have:=(wE hz).2;omega⟩;have hcm:∀W,Has W w.heap.size 78 (aK x).toArray->W.cell? ⟨w.heap.size,13,none⟩=some (.int .i64 (m:Int)):=fun W hW=>by have h0:W.cell? ⟨w.heap.size,13,none⟩=some (.int .i64 (x.pin.left)):=hW.cell 13;rw[hm]at h0;exact h0
 have hbm:=(wE hz).2;rw[hm]at hbm⊢;rw[Int.toNat_natCast];have HCm:=ah hcm;have HBm:=ah hbm;clear hcm hbm hm;clear hz hat;have HC:=ah fC;have HQ:=ah hq;have bf:=ah hk0;have dW:=ah hn0;have HX:=ah h;have HU:=ah hu;clear fC hq hk0 hn0 h hu h0 hP hk;go_enter Tryz.func56,Tryz.ntmps56;go_wp2_with (refine wpList_load_row rfl 78 (.tmp 1) rfl w.heap.size rfl 78 _ (0,0) _ dW.out Tryz.underlying78 rfl (by kernel_rfl) ?_);clear hW0;refine HC.out.mono ?_;rintro e w2 ⟨rfl,hk2⟩;have dV:=ah (dW.out.kept hk2 (fun z=>z));have aV:=ah (bf.out.then hk2);clear hk2;have c0:=HQ.out _ dV.out
 have hnew:∀W,Has W w.heap.size 78 (aK x).toArray->Calls Tryz.prog 112 #[] W fun e w'=>∃g,e=.returned (.pointer (some ⟨g,0,none⟩))/\WS W.heap.size w' g [] [(w.heap.size,78,(aK x).toArray)]/\Kept aj W w':=
  fun W hW=>rV W _ (fun y hy=>by simp at hy;subst hy;exact hW)
 have gI:=ah hnew;clear hnew;go_wp2_with fail
 go_region_held3 (fun W=>W.cell? ⟨w.heap.size,0,none⟩=some (.int .i64 6)) (first|with_reducible exact q5|with_reducible exact q4|with_reducible exact c0|(simp[go_sem,c0];done))
  (first
   |(go_at_call 112;refine(gI.out _ (by exact dV.out)).mono ?_;rintro e w4 ⟨g,rfl,hw4,mJ⟩;have q4:=HQ.out _ (hw4.has (List.mem_singleton.2 rfl));have kW:=ah hw4;have mM:=ah mJ;clear hw4 mJ)
   |(go_at_call 113;refine(iI (by exact kW.out) 6 (by omega) (by simp)).mono ?_;rintro e w5 ⟨rfl,hw5,hb5⟩;have q5:=HQ.out _ (hw5.has (List.mem_singleton.2 rfl));have eF:=ah hw5;have jv:=ah hb5;clear hw5 hb5))
 have hk4:Kept aj w w4:=Kept.then (by(repeat'(first|(with_reducible first|exact ak|apply au|apply ay|apply aA|apply aB)|(with_reducible exact aV.out)|(right;simp;done)))) mM.out;have hle:w.heap.size<=w2.heap.size:=aV.out.size;have hk5:Kept aj w w5:=behind hk4 jv.out hle;have hw5:=eF.out;simp only[List.nil_append]at hw5;clear q4 c0 kW eF jv mM hk4 gI HC;have eF:=ah hw5;have dB:=ah hk5;have jw:=ah hle;clear hw5 hk5 hle;have hpl:=bH (n:=6) (by omega);have hne:put 6≠[]:=by intro e;have h1:=put_pos 6;rw[e]at h1;simp at h1
 have HH:=ah (And.intro hpl hne);clear hpl hne;have ln:=bH (n:=n) (by have:=zN.out;omega);have la:=bH (n:=a) (by have:=Es.out;omega);have lm:=bH (n:=m) (by have:=HBm.out;omega);have mO:=ah (And.intro ln (And.intro la (lm)));clear ln la lm;have r0:w5.cell? ⟨w.heap.size,11,none⟩=some (.int .i64 (n:Int))/\w5.cell? ⟨w.heap.size,12,none⟩=some (.int .u64 (a:Int))/\w5.cell? ⟨w.heap.size,13,none⟩=some (.int .i64 (m:Int)):=⟨yu.out _ (eF.out.has (List.mem_singleton.2 rfl)),yw.out _ (eF.out.has (List.mem_singleton.2 rfl)),HCm.out _ (eF.out.has (List.mem_singleton.2 rfl))⟩;clear q5;go_wp2_with fail
 go_region_held3 (fun W=>W.cell? ⟨w.heap.size,11,none⟩=some (.int .i64 (n:Int))/\W.cell? ⟨w.heap.size,12,none⟩=some (.int .u64 (a:Int))/\W.cell? ⟨w.heap.size,13,none⟩=some (.int .i64 (m:Int))) (first|with_reducible exact r3|with_reducible exact r2|with_reducible exact r1|with_reducible exact r0|(simp[go_sem,r0];done))
  (first
   |(have hx:=sH;clear hx;go_at_call 113;refine(iI (by exact sH.out) m (by have:=HBm.out;omega) (by have:=HH.out.1;have:=mO.out;simp;omega)).mono ?_;rintro e v3 ⟨rfl,hv,hd⟩;have r3:v3.cell? ⟨w.heap.size,11,none⟩=some (.int .i64 (n:Int))/\v3.cell? ⟨w.heap.size,12,none⟩=some (.int .u64 (a:Int))/\v3.cell? ⟨w.heap.size,13,none⟩=some (.int .i64 (m:Int)):=⟨yu.out _ (hv.has (List.mem_singleton.2 rfl)),yw.out _ (hv.has (List.mem_singleton.2 rfl)),HCm.out _ (hv.has (List.mem_singleton.2 rfl))⟩;have Lr:=ah hv;have HD3:=ah hd;clear hv hd)
   |(have hx:=ru;clear hx;go_at_call 117;refine(yD (by exact ru.out) a (by have:=Es.out;omega) (by have:=HH.out.1;have:=mO.out;simp;omega)).mono ?_;rintro e v2 ⟨rfl,hv,hd⟩;have r2:v2.cell? ⟨w.heap.size,11,none⟩=some (.int .i64 (n:Int))/\v2.cell? ⟨w.heap.size,12,none⟩=some (.int .u64 (a:Int))/\v2.cell? ⟨w.heap.size,13,none⟩=some (.int .i64 (m:Int)):=⟨yu.out _ (hv.has (List.mem_singleton.2 rfl)),yw.out _ (hv.has (List.mem_singleton.2 rfl)),HCm.out _ (hv.has (List.mem_singleton.2 rfl))⟩;have sH:=ah hv;have HD2:=ah hd;clear hv hd)
   |(have hx:=eF;clear hx;go_at_call 113;refine(iI (by exact eF.out) n (by have:=zN.out;omega) (by have:=HH.out.1;have:=mO.out;simp;omega)).mono ?_;rintro e v1 ⟨rfl,hv,hd⟩;have r1:v1.cell? ⟨w.heap.size,11,none⟩=some (.int .i64 (n:Int))/\v1.cell? ⟨w.heap.size,12,none⟩=some (.int .u64 (a:Int))/\v1.cell? ⟨w.heap.size,13,none⟩=some (.int .i64 (m:Int)):=⟨yu.out _ (hv.has (List.mem_singleton.2 rfl)),yw.out _ (hv.has (List.mem_singleton.2 rfl)),HCm.out _ (hv.has (List.mem_singleton.2 rfl))⟩;have ru:=ah hv;have HD1:=ah hd;clear hv hd))
 have iM:Kept aj w v3:=behind (behind (behind (by(repeat'(first|(with_reducible first|exact ak|apply au|apply ay|apply aA|apply aB)|(with_reducible exact dB.out)|(right;simp;done)))) HD1.out jw.out) HD2.out jw.out) HD3.out jw.out;have uV:=ah Lr.out;have vS:=ah iM;clear iM r0 r1 r2 r3 ru sH Lr HD1 HD2 HD3;go_wp2_with fail;refine(pK uV.out (by have:=HH.out.2;simp;intro h;exact absurd h this)).mono ?_;rintro e wf ⟨rfl,hbf⟩;have xg:=ah (behind vS.out hbf jw.out);clear hbf;go_wp2;go_ret2;exact⟨by simp only[List.append_assoc];rfl,xg.out⟩
theorem aff(h:iR w x)(h0:aT x=0)(hu:NU x)(hk:x.k=8):Calls Tryz.prog 56 #[fU x] w fun e w'=>e=.returned (.tuple #[.string (bI (jg x)),.int .i64 0])/\Kept aj w w':=by
 have hP:jg x=put 8++(put x.said.cl.toNat++put x.said.req.toNat++put x.said.e.toNat++put x.said.pin.toNat):=by unfold jg;rw[hk];rfl
 rw[hP];obtain⟨W0,hW0⟩:∃W0,w.alloc (.cells (aK x).toArray 78)=W0:=⟨_,rfl⟩;have hk0:Kept aj w W0:=by rw[<-hW0];(repeat'(first|(with_reducible first|exact ak|apply au|apply ay|apply aA|apply aB)|(right;simp;done)))
 have hn0:Has W0 w.heap.size 78 (aK x).toArray:=by rw[<-hW0];exact Has.new _ _ _
 have fC:=fB W0 x (h.kept hk0);rw[h0]at fC;have hq:∀W,Has W w.heap.size 78 (aK x).toArray->W.cell? ⟨w.heap.size,0,none⟩=some (.int .i64 8):=fun W hW=>by have h0:W.cell? ⟨w.heap.size,0,none⟩=some (.int .i64 x.k):=hW.cell 0;rw[hk]at h0;exact h0
 have hz:saidE x.said=0:=by unfold aT at h0;rw[hk]at h0;exact h0
 have hsd:=Kw hz;obtain⟨a,ha⟩:∃n:Nat,x.said.cl=n:=⟨(x.said.cl).toNat,by have:=hsd.1;omega⟩;have hca:∀W,Has W w.heap.size 78 (aK x).toArray->W.cell? ⟨w.heap.size,14,none⟩=some (.int .i64 (a:Int)):=fun W hW=>by have h0:W.cell? ⟨w.heap.size,14,none⟩=some (.int .i64 (x.said.cl)):=hW.cell 14;rw[ha]at h0;exact h0
 have hba:=hsd.1;rw[ha]at hba⊢;rw[Int.toNat_natCast];have yw:=ah hca;have Es:=ah hba;clear hca hba ha;obtain⟨b,hb⟩:∃n:Nat,x.said.req=n:=⟨(x.said.req).toNat,by have:=hsd.2.1;omega⟩;have hcb:∀W,Has W w.heap.size 78 (aK x).toArray->W.cell? ⟨w.heap.size,15,none⟩=some (.int .i64 (b:Int)):=fun W hW=>by have h0:W.cell? ⟨w.heap.size,15,none⟩=some (.int .i64 (x.said.req)):=hW.cell 15;rw[hb]at h0;exact h0
 have hbb:=hsd.2.1;rw[hb]at hbb⊢;rw[Int.toNat_natCast];have XA:=ah hcb;have HBb:=ah hbb;clear hcb hbb hb;obtain⟨c,hc⟩:∃n:Nat,x.said.e=n:=⟨(x.said.e).toNat,by have:=hsd.2.2.1;omega⟩;have hcc:∀W,Has W w.heap.size 78 (aK x).toArray->W.cell? ⟨w.heap.size,16,none⟩=some (.int .i64 (c:Int)):=fun W hW=>by have h0:W.cell? ⟨w.heap.size,16,none⟩=some (.int .i64 (x.said.e)):=hW.cell 16;rw[hc]at h0;exact h0
 have hbc:=hsd.2.2.1;rw[hc]at hbc⊢;rw[Int.toNat_natCast];have XB:=ah hcc;have HBc:=ah hbc;clear hcc hbc hc;obtain⟨d,hd⟩:∃n:Nat,x.said.pin=n:=⟨(x.said.pin).toNat,by have:=hsd.2.2.2;omega⟩;have hcd:∀W,Has W w.heap.size 78 (aK x).toArray->W.cell? ⟨w.heap.size,17,none⟩=some (.int .i64 (d:Int)):=fun W hW=>by have h0:W.cell? ⟨w.heap.size,17,none⟩=some (.int .i64 (x.said.pin)):=hW.cell 17;rw[hd]at h0;exact h0
 have hbd:=hsd.2.2.2;rw[hd]at hbd⊢;rw[Int.toNat_natCast];have XC:=ah hcd;have HBd:=ah hbd;clear hcd hbd hd;clear hz hsd;have HC:=ah fC;have HQ:=ah hq;have bf:=ah hk0;have dW:=ah hn0;have HX:=ah h;have HU:=ah hu;clear fC hq hk0 hn0 h hu h0 hP hk;go_enter Tryz.func56,Tryz.ntmps56;go_wp2_with (refine wpList_load_row rfl 78 (.tmp 1) rfl w.heap.size rfl 78 _ (0,0) _ dW.out Tryz.underlying78 rfl (by kernel_rfl) ?_);clear hW0;refine HC.out.mono ?_;rintro e w2 ⟨rfl,hk2⟩;have dV:=ah (dW.out.kept hk2 (fun z=>z));have aV:=ah (bf.out.then hk2);clear hk2;have c0:=HQ.out _ dV.out
 have hnew:∀W,Has W w.heap.size 78 (aK x).toArray->Calls Tryz.prog 112 #[] W fun e w'=>∃g,e=.returned (.pointer (some ⟨g,0,none⟩))/\WS W.heap.size w' g [] [(w.heap.size,78,(aK x).toArray)]/\Kept aj W w':=
  fun W hW=>rV W _ (fun y hy=>by simp at hy;subst hy;exact hW)
 have gI:=ah hnew;clear hnew;go_wp2_with fail
 go_region_held3 (fun W=>W.cell? ⟨w.heap.size,0,none⟩=some (.int .i64 8)) (first|with_reducible exact q5|with_reducible exact q4|with_reducible exact c0|(simp[go_sem,c0];done))
  (first
   |(go_at_call 112;refine(gI.out _ (by exact dV.out)).mono ?_;rintro e w4 ⟨g,rfl,hw4,mJ⟩;have q4:=HQ.out _ (hw4.has (List.mem_singleton.2 rfl));have kW:=ah hw4;have mM:=ah mJ;clear hw4 mJ)
   |(go_at_call 113;refine(iI (by exact kW.out) 8 (by omega) (by simp)).mono ?_;rintro e w5 ⟨rfl,hw5,hb5⟩;have q5:=HQ.out _ (hw5.has (List.mem_singleton.2 rfl));have eF:=ah hw5;have jv:=ah hb5;clear hw5 hb5))
 have hk4:Kept aj w w4:=Kept.then (by(repeat'(first|(with_reducible first|exact ak|apply au|apply ay|apply aA|apply aB)|(with_reducible exact aV.out)|(right;simp;done)))) mM.out;have hle:w.heap.size<=w2.heap.size:=aV.out.size;have hk5:Kept aj w w5:=behind hk4 jv.out hle;have hw5:=eF.out;simp only[List.nil_append]at hw5;clear q4 c0 kW eF jv mM hk4 gI HC;have eF:=ah hw5;have dB:=ah hk5;have jw:=ah hle;clear hw5 hk5 hle;have hpl:=bH (n:=8) (by omega);have hne:put 8≠[]:=by intro e;have h1:=put_pos 8;rw[e]at h1;simp at h1
 have HH:=ah (And.intro hpl hne);clear hpl hne;have la:=bH (n:=a) (by have:=Es.out;omega);have lb:=bH (n:=b) (by have:=HBb.out;omega);have lc:=bH (n:=c) (by have:=HBc.out;omega);have ld:=bH (n:=d) (by have:=HBd.out;omega);have mO:=ah (And.intro la (And.intro lb (And.intro lc (ld))));clear la lb lc ld;have r0:w5.cell? ⟨w.heap.size,14,none⟩=some (.int .i64 (a:Int))/\w5.cell? ⟨w.heap.size,15,none⟩=some (.int .i64 (b:Int))/\w5.cell? ⟨w.heap.size,16,none⟩=some (.int .i64 (c:Int))/\w5.cell? ⟨w.heap.size,17,none⟩=some (.int .i64 (d:Int)):=⟨yw.out _ (eF.out.has (List.mem_singleton.2 rfl)),XA.out _ (eF.out.has (List.mem_singleton.2 rfl)),XB.out _ (eF.out.has (List.mem_singleton.2 rfl)),XC.out _ (eF.out.has (List.mem_singleton.2 rfl))⟩;clear q5;go_wp2_with fail
 go_region_held3 (fun W=>W.cell? ⟨w.heap.size,14,none⟩=some (.int .i64 (a:Int))/\W.cell? ⟨w.heap.size,15,none⟩=some (.int .i64 (b:Int))/\W.cell? ⟨w.heap.size,16,none⟩=some (.int .i64 (c:Int))/\W.cell? ⟨w.heap.size,17,none⟩=some (.int .i64 (d:Int))) (first|with_reducible exact r4|with_reducible exact r3|with_reducible exact r2|with_reducible exact r1|with_reducible exact r0|(simp[go_sem,r0];done))
  (first
   |(have hx:=Lr;clear hx;go_at_call 113;refine(iI (by exact Lr.out) d (by have:=HBd.out;omega) (by have:=HH.out.1;have:=mO.out;simp;omega)).mono ?_;rintro e v4 ⟨rfl,hv,hd⟩;have r4:v4.cell? ⟨w.heap.size,14,none⟩=some (.int .i64 (a:Int))/\v4.cell? ⟨w.heap.size,15,none⟩=some (.int .i64 (b:Int))/\v4.cell? ⟨w.heap.size,16,none⟩=some (.int .i64 (c:Int))/\v4.cell? ⟨w.heap.size,17,none⟩=some (.int .i64 (d:Int)):=⟨yw.out _ (hv.has (List.mem_singleton.2 rfl)),XA.out _ (hv.has (List.mem_singleton.2 rfl)),XB.out _ (hv.has (List.mem_singleton.2 rfl)),XC.out _ (hv.has (List.mem_singleton.2 rfl))⟩;have HV4:=ah hv;have HD4:=ah hd;clear hv hd)
   |(have hx:=sH;clear hx;go_at_call 113;refine(iI (by exact sH.out) c (by have:=HBc.out;omega) (by have:=HH.out.1;have:=mO.out;simp;omega)).mono ?_;rintro e v3 ⟨rfl,hv,hd⟩;have r3:v3.cell? ⟨w.heap.size,14,none⟩=some (.int .i64 (a:Int))/\v3.cell? ⟨w.heap.size,15,none⟩=some (.int .i64 (b:Int))/\v3.cell? ⟨w.heap.size,16,none⟩=some (.int .i64 (c:Int))/\v3.cell? ⟨w.heap.size,17,none⟩=some (.int .i64 (d:Int)):=⟨yw.out _ (hv.has (List.mem_singleton.2 rfl)),XA.out _ (hv.has (List.mem_singleton.2 rfl)),XB.out _ (hv.has (List.mem_singleton.2 rfl)),XC.out _ (hv.has (List.mem_singleton.2 rfl))⟩;have Lr:=ah hv;have HD3:=ah hd;clear hv hd)
   |(have hx:=ru;clear hx;go_at_call 113;refine(iI (by exact ru.out) b (by have:=HBb.out;omega) (by have:=HH.out.1;have:=mO.out;simp;omega)).mono ?_;rintro e v2 ⟨rfl,hv,hd⟩;have r2:v2.cell? ⟨w.heap.size,14,none⟩=some (.int .i64 (a:Int))/\v2.cell? ⟨w.heap.size,15,none⟩=some (.int .i64 (b:Int))/\v2.cell? ⟨w.heap.size,16,none⟩=some (.int .i64 (c:Int))/\v2.cell? ⟨w.heap.size,17,none⟩=some (.int .i64 (d:Int)):=⟨yw.out _ (hv.has (List.mem_singleton.2 rfl)),XA.out _ (hv.has (List.mem_singleton.2 rfl)),XB.out _ (hv.has (List.mem_singleton.2 rfl)),XC.out _ (hv.has (List.mem_singleton.2 rfl))⟩;have sH:=ah hv;have HD2:=ah hd;clear hv hd)
   |(have hx:=eF;clear hx;go_at_call 113;refine(iI (by exact eF.out) a (by have:=Es.out;omega) (by have:=HH.out.1;have:=mO.out;simp;omega)).mono ?_;rintro e v1 ⟨rfl,hv,hd⟩;have r1:v1.cell? ⟨w.heap.size,14,none⟩=some (.int .i64 (a:Int))/\v1.cell? ⟨w.heap.size,15,none⟩=some (.int .i64 (b:Int))/\v1.cell? ⟨w.heap.size,16,none⟩=some (.int .i64 (c:Int))/\v1.cell? ⟨w.heap.size,17,none⟩=some (.int .i64 (d:Int)):=⟨yw.out _ (hv.has (List.mem_singleton.2 rfl)),XA.out _ (hv.has (List.mem_singleton.2 rfl)),XB.out _ (hv.has (List.mem_singleton.2 rfl)),XC.out _ (hv.has (List.mem_singleton.2 rfl))⟩;have ru:=ah hv;have HD1:=ah hd;clear hv hd))
 have iM:Kept aj w v4:=behind (behind (behind (behind (by(repeat'(first|(with_reducible first|exact ak|apply au|apply ay|apply aA|apply aB)|(with_reducible exact dB.out)|(right;simp;done)))) HD1.out jw.out) HD2.out jw.out) HD3.out jw.out) HD4.out jw.out;have uV:=ah HV4.out;have vS:=ah iM;clear iM r0 r1 r2 r3 r4 ru sH Lr HV4 HD1 HD2 HD3 HD4;go_wp2_with fail;refine(pK uV.out (by have:=HH.out.2;simp;intro h;exact absurd h this)).mono ?_;rintro e wf ⟨rfl,hbf⟩;have xg:=ah (behind vS.out hbf jw.out);clear hbf;go_wp2;go_ret2;exact⟨by simp only[List.append_assoc];rfl,xg.out⟩
theorem afg(h:iR w x)(h0:aT x=0)(hu:NU x)(hk:x.k=2):Calls Tryz.prog 56 #[fU x] w fun e w'=>e=.returned (.tuple #[.string (bI (jg x)),.int .i64 0])/\Kept aj w w':=by
 have hP:jg x=put 2++(put x.n.toNat++dR (oz (yE x))):=by unfold jg;rw[hk];rfl
 rw[hP];obtain⟨W0,hW0⟩:∃W0,w.alloc (.cells (aK x).toArray 78)=W0:=⟨_,rfl⟩;have hk0:Kept aj w W0:=by rw[<-hW0];(repeat'(first|(with_reducible first|exact ak|apply au|apply ay|apply aA|apply aB)|(right;simp;done)))
 have hn0:Has W0 w.heap.size 78 (aK x).toArray:=by rw[<-hW0];exact Has.new _ _ _
 have fC:=fB W0 x (h.kept hk0);rw[h0]at fC;have hq:∀W,Has W w.heap.size 78 (aK x).toArray->W.cell? ⟨w.heap.size,0,none⟩=some (.int .i64 2):=fun W hW=>by have h0:W.cell? ⟨w.heap.size,0,none⟩=some (.int .i64 x.k):=hW.cell 0;rw[hk]at h0;exact h0
 have hz:(if iG [x.n]=0 then Ops.chk x.b else iG [x.n])=0:=by unfold aT at h0;rw[hk]at h0;exact h0
 have aa5:iG [x.n]=0:=by
  by_cases hn:iG [x.n]=0
  ·exact hn
  ·rw[if_neg hn]at hz;exact absurd hz hn
 obtain⟨n,hn⟩:∃n:Nat,x.n=n:=⟨(x.n).toNat,by have:=nX aa5;omega⟩;have hcn:∀W,Has W w.heap.size 78 (aK x).toArray->W.cell? ⟨w.heap.size,1,none⟩=some (.int .i64 (n:Int)):=fun W hW=>by have h0:W.cell? ⟨w.heap.size,1,none⟩=some (.int .i64 (x.n)):=hW.cell 1;rw[hn]at h0;exact h0
 have hbn:=nX aa5;rw[hn]at hbn⊢;rw[Int.toNat_natCast];have yu:=ah hcn;have zN:=ah hbn;clear hcn hbn hn;clear hz aa5;have hcall:=fun W (hW:Kept aj w W)=>OG W (yE x) (h.o.kept hW (fun _ _ z=>z)) hu.2.2.2;have hsz:=yV (e:=yE x) hu.2.2.2;obtain⟨s,hs⟩:∃s,oz (yE x)=s:=⟨_,rfl⟩;obtain⟨z,hz⟩:∃z,Ops.chk (oW (yE x))=z:=⟨_,rfl⟩;rw[hs]at hcall hsz⊢;rw[hz]at hcall;dsimp only[yE,ae8]at hcall;have DR:=ah hcall;have kR:=ah hsz;clear hcall hsz hs hz;have HC:=ah fC;have HQ:=ah hq;have bf:=ah hk0;have dW:=ah hn0;have HX:=ah h;have HU:=ah hu;clear fC hq hk0 hn0 h hu h0 hP hk;go_enter Tryz.func56,Tryz.ntmps56;go_wp2_with (refine wpList_load_row rfl 78 (.tmp 1) rfl w.heap.size rfl 78 _ (0,0) _ dW.out Tryz.underlying78 rfl (by kernel_rfl) ?_);clear hW0;refine HC.out.mono ?_;rintro e w2 ⟨rfl,hk2⟩;have dV:=ah (dW.out.kept hk2 (fun z=>z));have aV:=ah (bf.out.then hk2);clear hk2;have c0:=HQ.out _ dV.out
 have hnew:∀W,Has W w.heap.size 78 (aK x).toArray->Calls Tryz.prog 112 #[] W fun e w'=>∃g,e=.returned (.pointer (some ⟨g,0,none⟩))/\WS W.heap.size w' g [] [(w.heap.size,78,(aK x).toArray)]/\Kept aj W w':=
  fun W hW=>rV W _ (fun y hy=>by simp at hy;subst hy;exact hW)
 have gI:=ah hnew;clear hnew;go_wp2_with fail
 go_region_held3 (fun W=>W.cell? ⟨w.heap.size,0,none⟩=some (.int .i64 2)) (first|with_reducible exact q5|with_reducible exact q4|with_reducible exact c0|(simp[go_sem,c0];done))
  (first
   |(go_at_call 112;refine(gI.out _ (by exact dV.out)).mono ?_;rintro e w4 ⟨g,rfl,hw4,mJ⟩;have q4:=HQ.out _ (hw4.has (List.mem_singleton.2 rfl));have kW:=ah hw4;have mM:=ah mJ;clear hw4 mJ)
   |(go_at_call 113;refine(iI (by exact kW.out) 2 (by omega) (by simp)).mono ?_;rintro e w5 ⟨rfl,hw5,hb5⟩;have q5:=HQ.out _ (hw5.has (List.mem_singleton.2 rfl));have eF:=ah hw5;have jv:=ah hb5;clear hw5 hb5))
 have hk4:Kept aj w w4:=Kept.then (by(repeat'(first|(with_reducible first|exact ak|apply au|apply ay|apply aA|apply aB)|(with_reducible exact aV.out)|(right;simp;done)))) mM.out;have hle:w.heap.size<=w2.heap.size:=aV.out.size;have hk5:Kept aj w w5:=behind hk4 jv.out hle;have hw5:=eF.out;simp only[List.nil_append]at hw5;clear q4 c0 kW eF jv mM hk4 gI HC;have eF:=ah hw5;have dB:=ah hk5;have jw:=ah hle;clear hw5 hk5 hle;have hpl:=bH (n:=2) (by omega);have hne:put 2≠[]:=by intro e;have h1:=put_pos 2;rw[e]at h1;simp at h1
 have HH:=ah (And.intro hpl hne);clear hpl hne;have kG:=eF.out.has (List.mem_singleton.2 rfl);have u7:w5.cell? ⟨w.heap.size,7,none⟩=some (.int .i64 x.b.cl):=kG.cell 7;have u8:w5.cell? ⟨w.heap.size,8,none⟩=some (.int .i64 x.b.req):=kG.cell 8;have u9:w5.cell? ⟨w.heap.size,9,none⟩=some (.slice x.oA x.b.ops.length x.oc):=kG.cell 9;have u10:w5.cell? ⟨w.heap.size,10,none⟩=some (.int .u64 x.ts):=kG.cell 10;clear kG q5;go_wp2_with fail;refine(DR.out _ dB.out).mono ?_;rintro e w6 ⟨rfl,hk6⟩;have yZ:=ah (WS.kept (G:=aj) eF.out hk6);have kQ:=ah (dB.out.then hk6);clear hk6 u7 u8 u9 u10;have u1:=yu.out _ (yZ.out.has (List.mem_singleton.2 rfl));go_wp2_with fail;refine(iI yZ.out n (by have:=zN.out;omega) (by have:=HH.out.1;omega)).mono ?_;rintro e w7 ⟨rfl,hw7,hb7⟩;have XD:=ah hw7;have DU:=ah (behind kQ.out hb7 jw.out);clear hw7 hb7 u1;go_wp2_with fail;refine(pJ XD.out s (by have:=HH.out.1;have:=kR.out;have:=bH (n:=n) (by have:=zN.out;omega);simp;omega)).mono ?_;rintro e w8 ⟨rfl,hw8,hb8⟩;have uV:=ah hw8;have vS:=ah (behind DU.out hb8 jw.out);clear hw8 hb8;go_wp2_with fail;refine(pK uV.out (by have:=HH.out.2;simp;intro h;exact absurd h this)).mono ?_;rintro e wf ⟨rfl,hbf⟩;have xg:=ah (behind vS.out hbf jw.out);clear hbf;go_wp2;go_ret2;exact⟨by simp only[List.append_assoc];rfl,xg.out⟩
theorem afh(h:iR w x)(h0:aT x=0)(hu:NU x)(hk:x.k=1):Calls Tryz.prog 56 #[fU x] w fun e w'=>e=.returned (.tuple #[.string (bI (jg x)),.int .i64 0])/\Kept aj w w':=by
 have hP:jg x=put 1++(dR (kV x.ep x.ms x.fl)++put x.lg.length++x.lg.flatMap (fun i=>put i.toNat)):=by unfold jg;rw[hk];rfl
 rw[hP];obtain⟨W0,hW0⟩:∃W0,w.alloc (.cells (aK x).toArray 78)=W0:=⟨_,rfl⟩;have hk0:Kept aj w W0:=by rw[<-hW0];(repeat'(first|(with_reducible first|exact ak|apply au|apply ay|apply aA|apply aB)|(right;simp;done)))
 have hn0:Has W0 w.heap.size 78 (aK x).toArray:=by rw[<-hW0];exact Has.new _ _ _
 have fC:=fB W0 x (h.kept hk0);rw[h0]at fC;have hq:∀W,Has W w.heap.size 78 (aK x).toArray->W.cell? ⟨w.heap.size,0,none⟩=some (.int .i64 1):=fun W hW=>by have h0:W.cell? ⟨w.heap.size,0,none⟩=some (.int .i64 x.k):=hW.cell 0;rw[hk]at h0;exact h0
 have hz:(if aJ.chk x.ep x.ms=0 then nO x.lg else aJ.chk x.ep x.ms)=0:=by unfold aT at h0;rw[hk]at h0;exact h0
 have hc0:aJ.chk x.ep x.ms=0:=by
  by_cases hc:aJ.chk x.ep x.ms=0
  ·exact hc
  ·rw[if_neg hc]at hz;exact absurd hz hc
 rw[if_pos hc0]at hz;have y8:=IY hz;have hcl:∀W,Has W w.heap.size 78 (aK x).toArray->W.cell? ⟨w.heap.size,6,none⟩=some (.slice x.lA x.lg.length x.lc):=fun W hW=>hW.cell 6;have hsl:=h.l;obtain⟨l,hl⟩:∃l,x.lg=l:=⟨_,rfl⟩;obtain⟨A,hA⟩:∃A,x.lA=A:=⟨_,rfl⟩;rw[hl]at hcl y8 hsl⊢;rw[hA]at hcl hsl;have hcall:=fun W (hW:Kept aj w W)=>OE W x.ep x.fl x.mA x.mc x.ms (h.m.kept hW (fun _ _ z=>z)) h.mc h.ml hu.2.2.1;have hsz:=uo (ep:=x.ep) (ms:=x.ms) hu.2.2.1;obtain⟨s,hs⟩:∃s,kV x.ep x.ms x.fl=s:=⟨_,rfl⟩;obtain⟨z,hz2⟩:∃z,aJ.chk x.ep x.ms=z:=⟨_,rfl⟩;rw[hs]at hcall hsz⊢;rw[hz2]at hcall;have DR:=ah hcall;have kR:=ah hsz;have oL:=ah hcl;have tZ:=ah y8;have yx:=ah hsl;clear hz hc0 hl hA hcl y8 hsl hcall hsz hs hz2;have HC:=ah fC;have HQ:=ah hq;have bf:=ah hk0;have dW:=ah hn0;have HX:=ah h;have HU:=ah hu;clear fC hq hk0 hn0 h hu h0 hP hk;go_enter Tryz.func56,Tryz.ntmps56;go_wp2_with (refine wpList_load_row rfl 78 (.tmp 1) rfl w.heap.size rfl 78 _ (0,0) _ dW.out Tryz.underlying78 rfl (by kernel_rfl) ?_);clear hW0;refine HC.out.mono ?_;rintro e w2 ⟨rfl,hk2⟩;have dV:=ah (dW.out.kept hk2 (fun z=>z));have aV:=ah (bf.out.then hk2);clear hk2;have c0:=HQ.out _ dV.out
 have hnew:∀W,Has W w.heap.size 78 (aK x).toArray->Calls Tryz.prog 112 #[] W fun e w'=>∃g,e=.returned (.pointer (some ⟨g,0,none⟩))/\WS W.heap.size w' g [] [(w.heap.size,78,(aK x).toArray)]/\Kept aj W w':=
  fun W hW=>rV W _ (fun y hy=>by simp at hy;subst hy;exact hW)
 have gI:=ah hnew;clear hnew;go_wp2_with fail
 go_region_held3 (fun W=>W.cell? ⟨w.heap.size,0,none⟩=some (.int .i64 1)) (first|with_reducible exact q5|with_reducible exact q4|with_reducible exact c0|(simp[go_sem,c0];done))
  (first
   |(go_at_call 112;refine(gI.out _ (by exact dV.out)).mono ?_;rintro e w4 ⟨g,rfl,hw4,mJ⟩;have q4:=HQ.out _ (hw4.has (List.mem_singleton.2 rfl));have kW:=ah hw4;have mM:=ah mJ;clear hw4 mJ)
   |(go_at_call 113;refine(iI (by exact kW.out) 1 (by omega) (by simp)).mono ?_;rintro e w5 ⟨rfl,hw5,hb5⟩;have q5:=HQ.out _ (hw5.has (List.mem_singleton.2 rfl));have eF:=ah hw5;have jv:=ah hb5;clear hw5 hb5))
 have hk4:Kept aj w w4:=Kept.then (by(repeat'(first|(with_reducible first|exact ak|apply au|apply ay|apply aA|apply aB)|(with_reducible exact aV.out)|(right;simp;done)))) mM.out;have hle:w.heap.size<=w2.heap.size:=aV.out.size;have hk5:Kept aj w w5:=behind hk4 jv.out hle;have hw5:=eF.out;simp only[List.nil_append]at hw5;clear q4 c0 kW eF jv mM hk4 gI HC;have eF:=ah hw5;have dB:=ah hk5;have jw:=ah hle;clear hw5 hk5 hle;have hpl:=bH (n:=1) (by omega);have hne:put 1≠[]:=by intro e;have h1:=put_pos 1;rw[e]at h1;simp at h1
 have HH:=ah (And.intro hpl hne);clear hpl hne;have kG:=eF.out.has (List.mem_singleton.2 rfl);have u3:w5.cell? ⟨w.heap.size,3,none⟩=some (.int .i64 x.ep):=kG.cell 3;have u4:w5.cell? ⟨w.heap.size,4,none⟩=some (.slice x.mA x.ms.length x.mc):=kG.cell 4;have u5:w5.cell? ⟨w.heap.size,5,none⟩=some (.int .u64 x.fl):=kG.cell 5;clear kG q5;go_wp2_with fail;refine(DR.out _ dB.out).mono ?_;rintro e w6 ⟨rfl,hk6⟩;have yZ:=ah (WS.kept (G:=aj) eF.out hk6);have kQ:=ah (dB.out.then hk6);clear hk6 u3 u4 u5;have hll:=bH (n:=l.length) (by have:=tZ.out.1;omega);have mO:=ah hll;clear hll;have r0:w6.cell? ⟨w.heap.size,6,none⟩=some (.slice A l.length x.lc):=oL.out _ (yZ.out.has (List.mem_singleton.2 rfl));go_wp2_with fail
 go_region_held3 (fun W=>W.cell? ⟨w.heap.size,6,none⟩=some (.slice A l.length x.lc)) (first|with_reducible exact r2|with_reducible exact r1|with_reducible exact r0|(simp[go_sem,r0];done))
  (first
   |(go_at_call 113;refine(iI (by exact ru.out) l.length (by have:=tZ.out.1;omega) (by have:=HH.out.1;have:=kR.out;have:=jO kR.out (by omega);simp;omega)).mono ?_;rintro e v2 ⟨rfl,hv,hd⟩;have r2:v2.cell? ⟨w.heap.size,6,none⟩=some (.slice A l.length x.lc):=oL.out _ (hv.has (List.mem_singleton.2 rfl));have sH:=ah hv;have HD2:=ah hd;clear hv hd)
   |(go_at_call 115;refine(pJ (by exact yZ.out) s (by have:=HH.out.1;have:=kR.out;omega)).mono ?_;rintro e v1 ⟨rfl,hv,hd⟩;have r1:v1.cell? ⟨w.heap.size,6,none⟩=some (.slice A l.length x.lc):=oL.out _ (hv.has (List.mem_singleton.2 rfl));have ru:=ah hv;have HD1:=ah hd;clear hv hd))
 have iM:Kept aj w v2:=behind (behind (by(repeat'(first|(with_reducible first|exact ak|apply au|apply ay|apply aA|apply aB)|(with_reducible exact kQ.out)|(right;simp;done)))) HD1.out jw.out) HD2.out jw.out;have vS:=ah iM;clear iM r0 r1 ru HD1 HD2;have hb:(put 1++dR s++put l.length).length<=1000:=by have h1:=HH.out.1;have h2:=mO.out;have h3:=jO kR.out (by omega);simp only[lA0];omega
 obtain⟨hdr,tY⟩:∃hdr,put 1++dR s++put l.length=hdr:=⟨_,rfl⟩;have hv2:=sH.out;rw[tY]at hv2 hb;have sH:=ah hv2;have Lt:=ah (And.intro tY hb);clear hv2 tY hb;have r2':=oL.out _ (sH.out.has (List.mem_singleton.2 rfl));go_wp2;go_loopw [54] (fun v wr=>∃i:Nat,i<=l.length/\v=.int .i64 i/\WS w2.heap.size wr g (hdr++(l.take i).flatMap (fun i:Int=>put i.toNat)) [(w.heap.size,78,(aK x).toArray)]/\Kept aj w wr) (fun v _=>l.length-(intOf v).toNat)
 case atStart=>exact⟨0,Nat.zero_le _,rfl,by rw[List.take_zero,List.flatMap_nil,List.append_nil];exact sH.out,vS.out⟩
 case round=>
  obtain⟨i,hi,rfl,hws,hk⟩:=hrel;have HK:=ah hk;clear hk;have hnl:=tZ.out.1;by_cases hil:i<l.length
  ·obtain⟨y,hy⟩:∃y,l[i]? =some y:=⟨_,lB0 hil⟩;have hyi:l[i]=y:=by rw[lB0 hil]at hy;exact Option.some.inj hy
   have hyb:=tZ.out.2 y (lC0 hy);have iP:=qY (fun i:Int=>put i.toNat) l i hil;rw[hyi]at iP
   have hfl:=oI (fun i:Int=>put i.toNat) (l.take i) 9 (fun y hy2=>by have b:=tZ.out.2 y (List.mem_of_mem_take hy2);exact bH (by omega))
   have hmin:(l.take i).length<=4:=by rw[List.length_take];omega
   have pX:(hdr++(l.take i).flatMap (fun i:Int=>put i.toNat)).length<=2000:=by rw[lA0];have:=Lt.out.2;omega
   obtain⟨cur,hcur⟩:∃cur,hdr++(l.take i).flatMap (fun i:Int=>put i.toNat)=cur:=⟨_,rfl⟩;rw[hcur]at hws pX;obtain⟨ad,rfl,had,e0⟩:=qZ (yx.out.kept HK.out (fun _ _ z=>z)) (by omega) i y hy;obtain⟨n,rfl⟩:∃n:Nat,y=n:=⟨y.toNat,by omega⟩;have hnext:hdr++(l.take (i+1)).flatMap (fun i:Int=>put i.toNat)=cur++put n:=by rw[iP,<-List.append_assoc,hcur,Int.toNat_natCast]
   have pM:=ah hnext;have jP:=ah pX;have HYB:=ah hyb;have y9:=ah hws;clear hnext iP hfl hcur hmin hy hyi hyb pX hws;go_wp2_with fail;refine(iI y9.out n (by have:=HYB.out;omega) (by have:=jP.out;omega)).mono ?_;rintro e w8 ⟨rfl,hw8,hb8⟩;rw[<-pM.out]at hw8;have HW8:=ah hw8;have zf:=ah (behind HK.out hb8 jw.out);clear hw8 hb8;go_wp2;go_roundw
   case rel=>exact⟨i+1,by omega,by go_num,HW8.out,zf.out⟩
   case measure=>simp[intOf];omega
  ·obtain rfl:i=l.length:=by omega
   rw[List.take_length,<-Lt.out.1]at hws;have uV:=ah hws;clear hws;have afi:=HK;clear vS;have vS:=afi;clear afi;go_wp2_with fail;refine(pK uV.out (by have:=HH.out.2;simp;intro h;exact absurd h this)).mono ?_;rintro e wf ⟨rfl,hbf⟩;have xg:=ah (behind vS.out hbf jw.out);clear hbf;go_wp2;go_ret2;exact⟨by simp only[List.append_assoc];rfl,xg.out⟩
theorem OH(h:iR w x)(hu:NU x):Calls Tryz.prog 56 #[fU x] w fun e w'=>e=.returned (.tuple #[.string (lK x),.int .i64 (aT x)])/\Kept aj w w':=by
 unfold lK;by_cases h0:aT x=0
 ·rw[if_pos h0,h0];have hk:x.k=1\/x.k=2\/x.k=3\/x.k=4\/x.k=5\/x.k=6\/x.k=7\/x.k=8:=by unfold aT at h0;by_cases h1:x.k=1;exact .inl h1;by_cases h2:x.k=2;exact .inr (.inl h2);rw[if_neg h1,if_neg h2]at h0;by_cases h3:x.k=3\/x.k=4\/x.k=5\/x.k=7;omega;rw[if_neg h3]at h0;by_cases h6:x.k=6;omega;rw[if_neg h6]at h0;by_cases h8:x.k=8;omega;rw[if_neg h8]at h0;cases h0
  rcases hk with hk|hk|hk|hk|hk|hk|hk|hk
  ·exact afh h h0 hu hk
  ·exact afg h h0 hu hk
  ·exact afd h h0 hu hk
  ·exact afc h h0 hu hk
  ·exact afa h h0 hu hk
  ·exact afe h h0 hu hk
  ·exact afb h h0 hu hk
  ·exact aff h h0 hu hk
 ·rw[if_neg h0];exact aa4 h h0

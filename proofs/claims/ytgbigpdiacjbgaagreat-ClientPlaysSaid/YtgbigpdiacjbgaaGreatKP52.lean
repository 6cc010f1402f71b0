/- Part 53. -/
import Derived.Test.YtgbigpdiacjbgaaGreatKP51
import Derived.Deep.CutBlock
set_option linter.unusedSimpArgs false
set_option linter.unusedVariables false
set_option maxHeartbeats 32000000
set_option maxRecDepth 100000
namespace Go.Proofs.YtgbigpdiacjbgaaGreat
open Go.RowKit
namespace wC
open bg Ops fG eP Vn Cli Go.Proofs.YtgbigpdiacjbgaaGreat.Ask
attribute [local go_sem↓] bW cZ
section
variable{w w':World}{Y Y':sS}{C C':dh}
theorem Qd(w:World)(cb:Nat)(f:Int):Calls Tryz.prog 22 #[.pointer (some ⟨cb,0,none⟩),.int .i64 f,.string ⟨#[]⟩] w fun e w'=>e=.returned (.slice none 0 0)/\w=w':=by go_enter Tryz.func22,Tryz.ntmps22;go_wp2;go_ret;exact⟨rfl,rfl⟩
theorem Qe(w:World)(cb:Nat)(f:Int)(s:ByteArray)(hs:0<s.size)(hb:s[0].toNat≠77):Calls Tryz.prog 22 #[.pointer (some ⟨cb,0,none⟩),.int .i64 f,.string s] w fun e w'=>e=.returned (.slice none 0 0)/\w=w':=by have hne:=qo hs;go_enter Tryz.func22,Tryz.ntmps22;go_wp2;go_ret;exact⟨rfl,rfl⟩
theorem Wy(w:World)(cb:Nat)(f:Int)(s:ByteArray)(hs:0<s.size)(hsm:s.size<=maxLen)(hb:s[0].toNat=77)(hz:(bJ.ofM (s.extract 1 s.size)).2≠0):Calls Tryz.prog 22 #[.pointer (some ⟨cb,0,none⟩),.int .i64 f,.string s] w fun e w'=>e=.returned (.slice none 0 0)/\Kept aj w w':=by
 have hne:=qo hs;have hof:=Rm.qA w (s.extract 1 s.size) (by rw[ByteArray.size_extract];omega);unfold bJ.lU at hof;obtain⟨er,uh⟩:∃er,(bJ.ofM (s.extract 1 s.size)).2=er:=⟨_,rfl⟩;rw[uh]at hz hof;have hz2:(er !=0)=true:=by simpa using hz
 have dw:=ah hof;clear hof uh hz;go_enter Tryz.func22,Tryz.ntmps22;go_wp2_with fail;refine dw.out.mono ?_;rintro e w3 ⟨x,rfl,-,-,hk3⟩;obtain⟨Wz,W4,gY,fP,-,hk4⟩:=kK w3 x;have HK:=ah (hk3.then hk4);unfold aK;obtain⟨cs,hcs⟩:∃cs,(au x).toArray=cs:=⟨_,rfl⟩;rw[hcs]at fP⊢;clear hk3 hk4;go_wp2;go_ret;exact⟨rfl,HK.out⟩
theorem Qg(h:iR w Y C [])(hi:gI C)(f:Int)(s:ByteArray)(hsm:s.size<=maxLen):Calls Tryz.prog 22 #[.pointer (some ⟨Y.cb,0,none⟩),.int .i64 f,.string s] w (eY w Y C (jk C f s).1 (jk C f s).2):=by
 have hno:∀e' w',e'=.returned (.slice none 0 0)->Kept aj w w'->eY w Y C C [] e' w':=fun e' w' h1 hk=>⟨Y,none,0,h1,aW.refl h hk,Src.nil _ _ _⟩;by_cases hs:0<s.size;rotate_left
 ·have hse:s=⟨#[]⟩:=by
   have h0:s.size=0:=by omega
   cases s with
   |mk d=>
    have h1:d.size=0:=h0;rw[Array.eq_empty_of_size_eq_zero h1]
  have e:jk C f s=(C,[]):=by unfold jk;rw[if_pos (by rw[hse];decide)]
  rw[e,hse];exact(Qd w Y.cb f).mono fun e' w' h1=>hno e' w' h1.1 (h1.2▸Kept.refl _ _)
 by_cases hb:s[0].toNat=77;rotate_left
 ·have e:jk C f s=(C,[]):=by unfold jk;rw[if_pos (by rw[zD hs];intro h1;injection h1 with h1;exact hb (by rw[h1];rfl))]
  rw[e];exact(Qe w Y.cb f s hs hb).mono fun e' w' h1=>hno e' w' h1.1 (h1.2▸Kept.refl _ _)
 have hfb:¬(bl s)[0]? ≠some 77:=by rw[zD hs];intro h1;exact h1 (congrArg some (UInt8.toNat_inj.1 hb))
 by_cases hz:(bJ.ofM (s.extract 1 s.size)).2=0;rotate_left
 ·have e:jk C f s=(C,[]):=by unfold jk;rw[if_neg hfb,if_pos hz]
  rw[e];exact(Wy w Y.cb f s hs hsm hb hz).mono fun e' w' h1=>hno e' w' h1.1 h1.2
 have e:jk C f s=aV C f (bJ.ofM (s.extract 1 s.size)).1:=by unfold jk;rw[if_neg hfb,if_neg (fun z=>z hz)]
 rw[e];obtain⟨V1,hV⟩:∃V1,bJ.ofM (s.extract 1 s.size)=(V1,0):=⟨_,Prod.ext rfl hz⟩;rw[hV];dsimp only;clear hno e hfb hz;by_cases hf:f=4
 ·by_cases hk:V1.k=1
  ·by_cases hc:C.ep<V1.fO
   ·cases hw:Bc C with
    |true=>exact aa6 h hi f s hs hsm hb V1 hV hf hk hc hw
    |false=>exact aa7 h hi f s hs hsm hb V1 hV hf hk hc hw
   ·exact abP h hi f s hs hsm hb V1 hV hf hk hc
  ·by_cases aZ:V1.k=7
   ·by_cases hc:C.ep<V1.ep
    ·exact aba h hi f s hs hsm hb V1 hV hf hk aZ hc
    ·exact abb h hi f s hs hsm hb V1 hV hf hk aZ hc
   ·exact abd h hi f s hs hsm hb V1 hV hf hk aZ
 ·by_cases aZ:V1.k=7
  ·by_cases hc:C.ep<V1.ep
   ·exact aa8 h hi f s hs hsm hb V1 hV hf aZ hc
   ·exact aa9 h hi f s hs hsm hb V1 hV hf aZ hc
  ·exact aa' h hi f s hs hsm hb V1 hV hf aZ
end
end wC
namespace Ask
open bg Ops fG eP MO Vn
attribute [local go_sem↓] bW cZ
section
variable{w:World}{p:Option Addr}
def NoT(w:World)(p:Option Addr):Prop:=p=none\/∃b,p=some ⟨b,0,none⟩/\Has w b 109 #[.nilIface,.int .i64 0,.int .i64 0,.bool false,.int .i64 0,.int .i64 0,.int .u64 0,.int .i64 0,.slice none 0 0]
theorem NoT.kept{w w':World}{p:Option Addr}(h:NoT w p)(hk:Kept aj w w'):NoT w' p:=by
 rcases h with h|⟨b,h,hh⟩
 ·exact .inl h
 ·exact .inr ⟨b,h,hh.kept hk (fun z=>z)⟩
end
end Ask
namespace Ask
open bg Ops fG eP MO Vn
theorem G9(w:World)(r:o8)(A B:Option Addr)(c d:Nat)(ha:Src w 2 A r.ps.length (bI r.ps))(hb:Src w 2 B r.ps.length (bI r.ps))(hl:r.ps.length<=1000):
  Calls Tryz.prog 16 #[nV r A c,nV r B d] w fun e w'=>e=.returned (.bool true)/\Kept aj w w':=by
 obtain⟨W9,pJ⟩:∃W9,w.alloc (.cells (iO r A c).toArray 36)=W9:=⟨_,rfl⟩;have hk9:Kept aj w W9:=by rw[<-pJ];(repeat'(first|(with_reducible first|exact ay|apply aA|apply aB|apply aC|apply aF)|(right;simp;done)))
 have TB:Has W9 w.heap.size 36 (iO r A c).toArray:=by rw[<-pJ];exact Has.new _ _ _
 have Jv:W9.heap.size=w.heap.size+1:=by rw[<-pJ];simp
 obtain⟨W0,hW0⟩:∃W0,W9.alloc (.cells (iO r B d).toArray 36)=W0:=⟨_,rfl⟩;have hk1:Kept aj W9 W0:=by rw[<-hW0];(repeat'(first|(with_reducible first|exact ay|apply aA|apply aB|apply aC|apply aF)|(right;simp;done)))
 have hk0:=hk9.then hk1;have hm0:Has W0 W9.heap.size 36 (iO r B d).toArray:=by rw[<-hW0];exact Has.new _ _ _
 have hn0:=TB.kept hk1 (fun z=>z);obtain⟨b1,hb1⟩:∃b1,w.heap.size=b1:=⟨_,rfl⟩;obtain⟨b2,hb2⟩:∃b2,W9.heap.size=b2:=⟨_,rfl⟩;rw[hb1]at hn0;rw[hb2]at hm0;have g0:=hn0.cell 0;have g1:=hn0.cell 1;have g2:=hn0.cell 2;have g3:=hn0.cell 3;have g4:=hn0.cell 4;have f0:=hm0.cell 0;have f1:=hm0.cell 1;have f2:=hm0.cell 2;have f3:=hm0.cell 3;have f4:=hm0.cell 4;simp[iO]at g0 g1 g2 g3 g4 f0 f1 f2 f3 f4;have hs:=Ht W0 A B c d r.ps r.ps (ha.kept hk0 (fun _ _ z=>z)) (hb.kept hk0 (fun _ _ z=>z)) (by omega);rw[decide_eq_true rfl]at hs;have HS:=ah hs;have aS:=ah hk0;have e1:(r.req==r.req)=true:=by simp
 have e2:(r.e==r.e)=true:=by simp
 have e3:(r.at'==r.at')=true:=by simp
 have e4:(r.pin==r.pin)=true:=by simp
 unfold iO at hW0 pJ;unfold nV iO;clear hs hk0 ha hb hl hk9 hk1 TB hn0 hm0 Jv;go_enter Tryz.func16,Tryz.ntmps16;go_wp2_with fail;refine HS.out.mono ?_;rintro e w2 ⟨rfl,hk⟩;have HK:=ah (aS.out.then hk);clear hk;go_wp2;go_ret;exact⟨rfl,HK.out⟩
end Ask
namespace wC
open bg Ops fG eP Vn Cli Go.Proofs.YtgbigpdiacjbgaaGreat.Ask
theorem ND(a:Int)(b:ByteArray)(W:World):(binOp .neq 54 (.agg #[.int .i64 a,.string b]) (.agg #[.int .i64 a,.string b])).run Tryz.prog W=.ok (.bool false) W:=by
 have e3:(b.toList==b.toList)=true:=by simp
 simp[go_sem,e3]
theorem He{w:World}{A:Option Addr}{m:Nat}{l:List dS}(h:Src w 2 A m (lI l))(hm:0<m)(i:Nat)(p:dS)(hp:l[i]? =some p):
  ∃ad,A=some ad/\ad.block<w.heap.size/\w.cell? (ad.add (i*2))=some (.int .i64 p.to)/\w.cell? ⟨(ad.add (i*2)).block,(ad.add (i*2)).off+1,none⟩=some (.string p.body):=by
 obtain⟨ad,rfl,had,hcell⟩:=h.2 hm;have k0:(lI l)[i*2]? =some (.int .i64 p.to):=by unfold lI;rw[flat_get PI 2 (by decide) (fun _=>rfl),show i*2/2=i by omega,show i*2%2=0 by omega,hp];rfl
 have k1:(lI l)[i*2+1]? =some (.string p.body):=by unfold lI;rw[flat_get PI 2 (by decide) (fun _=>rfl),show(i*2+1)/2=i by omega,show(i*2+1)%2=1 by omega,hp];rfl
 refine⟨ad,rfl,had,hcell _ _ k0,?_⟩;rw[<-add_lit _ (by omega),add_add];exact hcell _ _ k1
theorem EE{w:World}{A B:Option Addr}{c d n:Nat}{l:List dS}(hn:l.length=n)(hA:Src w 2 A n (lI l))(hB:Src w 2 B n (lI l))(hlen:n<=1000):
  Calls Tryz.prog 20 #[.slice A n c,.slice B n d] w fun e w'=>e=.returned (.bool true)/\Kept aj w w':=by
 have HA:=ah hA;clear hA;have HB:=ah hB;clear hB;have HN:=ah hn;clear hn;go_enter Tryz.func20,Tryz.ntmps20;go_wp2_with fail;go_loopw [5] (fun v5 wr=>∃i k:Nat,i<=n/\v5=.int .i64 i/\wr=w.drewN k) (fun v5 _=>n-(intOf v5).toNat)
 case atStart=>exact⟨0,0,Nat.zero_le _,rfl,rfl⟩
 case round=>
  obtain⟨i,k,hi,rfl,rfl⟩:=hrel;by_cases hil:i<n
  ·obtain⟨q,hq⟩:∃q,l[i]? =some q:=⟨_,lB0 (by have:=HN.out;omega)⟩;obtain⟨a1,rfl,hl1,d0,d1⟩:=He HA.out (by omega) i q hq;obtain⟨a2,rfl,hl2,f0,f1⟩:=He HB.out (by omega) i q hq;have heq:=ND q.to q.body;obtain⟨x1,hx1⟩:∃x1,q.to=x1:=⟨_,rfl⟩;obtain⟨x2,hx2⟩:∃x2,q.body=x2:=⟨_,rfl⟩;rw[hx1]at d0 f0;rw[hx2]at d1 f1;simp only[hx1,hx2]at heq;clear hq hx1 hx2;go_wp2_with fail;go_quiet (fail);go_wp2;go_roundw
   case rel=>exact⟨i+1,_,by omega,by go_num,rfl⟩
   case measure=>simp[intOf];omega
  ·obtain rfl:i=n:=by omega
   go_wp2;go_ret;exact⟨rfl,Kept.quiet _ _ _⟩
end wC
end Go.Proofs.YtgbigpdiacjbgaaGreat
namespace Go.Proofs.YtgbigpdiacjbgaaGreat
open Go.RowKit Go.Sort
namespace wC
open bg Ops fG eP Vn Cli Go.Proofs.YtgbigpdiacjbgaaGreat.Ask
section
variable{w w':World}{X:CX}{Y Y':sS}{C C':dh}
theorem MK(h:C.has=false->C.r=oH):CU C=C.r:=by
 unfold CU;cases e:C.has with
 |true=>rfl
 |false=>rw[h e];rfl
theorem Qh(hx:gq w X C)(hy:iR w Y C [])(hi:gI C)(h0:C.has=false->C.r=oH)(ht:C.t=none):Calls Tryz.prog 23 #[.pointer (some ⟨X.cb,0,none⟩),.pointer (some ⟨Y.cb,0,none⟩)] w fun e w'=>e=.returned (.bool true)/\Kept aj w w':=by
 have hlen:=hi.r;have qU:=Jw hx hi.r;unfold Em at qU;have ML:=MK h0;have hbt:C.t.isSome=false:=by rw[ht];rfl
 have hpt:jc Y C=.pointer none:=by first|exact kE ht|exact dW ht
 obtain⟨cb,hcb⟩:∃cb,X.cb=cb:=⟨_,rfl⟩;obtain⟨db,hdb⟩:∃db,Y.cb=db:=⟨_,rfl⟩;obtain⟨pb,hpb⟩:∃pb,Y.dx.b=pb:=⟨_,rfl⟩;rw[hcb]at qU;rw[hcb,hdb];have hS:∀W,Kept aj w W->Calls Tryz.prog 14 #[.pointer (some ⟨cb,0,none⟩)] W (fun e w'=>e=.returned (.bool false)/\W=w')/\Calls Tryz.prog 13 #[.pointer (some ⟨cb,0,none⟩)] W (fun e w'=>e=.returned (.int .i64 C.req)/\W=w')/\Calls Tryz.prog 10 #[.pointer (some ⟨cb,0,none⟩)] W (fun e w'=>e=.returned (.tuple #[.int .i64 C.ep,.int .i64 C.hd])/\Kept aj W w')/\Has W db 98 (lY Y C [])/\Src W 2 Y.rA C.r.ps.length (bI C.r.ps):=fun W hW=>by have h1:=FV (hx.quiet hW);have h2:=Iq (hx.quiet hW);have h3:=LP (hx.quiet hW);have h4:=(hy.quiet hW).b;have h5:=(hy.quiet hW).r;rw[hcb]at h1 h2 h3;rw[hbt]at h1;rw[hdb]at h4;exact⟨h1,h2,h3,h4,h5⟩
 unfold lY at hS;rw[hpt]at hS;rw[ML]at qU;obtain⟨rp,MN⟩:∃rp,C.r=rp:=⟨_,rfl⟩;rw[MN]at qU hS hlen;obtain⟨q1,q2,q3,q4,qs⟩:=rp;unfold nV iO at qU;dsimp only at qU hS hlen;obtain⟨nq,hnq⟩:∃nq,qs.length=nq:=⟨_,rfl⟩;rw[hnq]at qU hS hlen;obtain⟨hd,hhd⟩:∃hd,C.has=hd:=⟨_,rfl⟩;obtain⟨ep,G5⟩:∃ep,C.ep=ep:=⟨_,rfl⟩;obtain⟨hdd,MP⟩:∃hdd,C.hd=hdd:=⟨_,rfl⟩;obtain⟨rq,hrq⟩:∃rq,C.req=rq:=⟨_,rfl⟩;obtain⟨rA,Ui⟩:∃rA,Y.rA=rA:=⟨_,rfl⟩;obtain⟨rc,hrc⟩:∃rc,Y.rc=rc:=⟨_,rfl⟩;rw[hhd]at qU;rw[hhd,G5,MP,hrq,Ui,hrc]at hS;have Uj:=ah qU;have HS:=ah hS;have BX:=ah (And.intro hnq hlen);clear qU hS MN hnq hhd G5 MP hrq Ui hrc hcb hdb hpb hpt hbt ht h0 hi hx hy ML hlen;go_enter Tryz.func23,Tryz.ntmps23;go_wp2_with fail;refine Uj.out.mono ?_;rintro e w3 ⟨A3,c3,rfl,hrow3,hk3⟩;obtain⟨W4,jD⟩:∃W4,w3.alloc (.cells #[.int .i64 0,.int .i64 0,.int .u64 0,.int .i64 0,.slice none 0 0] 36)=W4:=⟨_,rfl⟩;obtain⟨b8,hb8⟩:∃b8,w3.heap.size=b8:=⟨_,rfl⟩;have hka:Kept aj w3 W4:=by rw[<-jD];(repeat'(first|(with_reducible first|exact ay|apply aA|apply aB|apply aC|apply aF)|(right;simp;done)))
 have hna:Has W4 b8 36 #[.int .i64 0,.int .i64 0,.int .u64 0,.int .i64 0,.slice none 0 0]:=by rw[<-jD,<-hb8];exact Has.new _ _ _
 have s0:=hna.cell 0;have s1:=hna.cell 1;have s2:=hna.cell 2;have s3:=hna.cell 3;have s4:=hna.cell 4;have KJ:=hna.frozen 0;have sf1:=hna.frozen 1;have sf2:=hna.frozen 2;have sf3:=hna.frozen 3;have sf4:=hna.frozen 4;simp at s0 s1 s2 s3 s4;obtain⟨V4,Hf⟩:∃V4,(((((W4.setCell ⟨b8,0,none⟩ (.int .i64 q1)).setCell ⟨b8,1,none⟩ (.int .i64 q2)).setCell ⟨b8,2,none⟩ (.int .u64 q3)).setCell ⟨b8,3,none⟩ (.int .i64 q4)).setCell ⟨b8,4,none⟩ (.slice A3 nq c3))=V4:=⟨_,rfl⟩;have hb4:Has V4 b8 36 #[.int .i64 q1,.int .i64 q2,.int .u64 q3,.int .i64 q4,.slice A3 nq c3]:=by rw[<-Hf];exact Has.aQ (Has.aQ (Has.aQ (Has.aQ (Has.aQ hna rfl) rfl) rfl) rfl) rfl
 have hkb:Kept aj w3 V4:=by
  have h9:w3.heap.size<=b8:=by omega
  rw[<-Hf];(repeat'(first|(with_reducible first|exact ay|apply aA|apply aB|apply aC|apply aF)|(first|exact hka|(right;exact h9))|(right;simp;done)))
 have hrow4:=hrow3.kept hkb;have hk4:=hk3.then hkb;have hh:=(HS.out V4 hk4).2.2.1;have HH:=ah hh;have HB4:=ah hb4;have Hg:=ah hrow4;have iU:=ah hk4;clear hh hb4 hrow4 hrow3 hk3 hkb hka hna hk4 Uj;go_wp2_with fail;clear jD hb8 s0 s1 s2 s3 s4 KJ sf1 sf2 sf3 sf4 Hf;refine HH.out.mono ?_;rintro e W9 ⟨rfl,hk8⟩;have hk9:=iU.out.then hk8;obtain⟨hbz,hrq,-,hdc,hds⟩:=HS.out W9 hk9;have hbx:=HB4.out.kept hk8 (fun z=>z);have hro:=Hg.out.kept hk8;have hsm:=fun W (hW:Kept aj W9 W)=>G9 W ⟨q1,q2,q3,q4,qs⟩ A3 rA c3 rc (by dsimp only;rw[BX.out.1];exact Src.fA (hro.kept hW).1) (by dsimp only;rw[BX.out.1];exact hds.kept hW (fun _ _ z=>z)) (by dsimp only;rw[BX.out.1];exact BX.out.2);have MQ:=fun W (hW:Kept aj W9 W)=>(HS.out W (hk9.then hW)).1;have MR:=fun W (hW:Kept aj W9 W)=>(HS.out W (hk9.then hW)).2.1;unfold nV iO at hsm;dsimp only at hsm;rw[BX.out.1]at hsm;have e0:=hbx.cell 0;have e1:=hbx.cell 1;have e2:=hbx.cell 2;have e3:=hbx.cell 3;have e4:=hbx.cell 4;have y1:=hdc.cell 1;have y2:=hdc.cell 2;have y3:=hdc.cell 3;have y4:=hdc.cell 4;have y5:=hdc.cell 5;have y6:=hdc.cell 6;have y7:=hdc.cell 7;have y8:=hdc.cell 8;have y9:=hdc.cell 9;have LW:=hdc.cell 10;simp at e0 e1 e2 e3 e4 y1 y2 y3 y4 y5 y6 y7 y8 y9 LW;have hrs:∀d os,Calls Tryz.prog 16 #[.agg #[.int .i64 q1,.int .i64 q2,.int .u64 q3,.int .i64 q4,.slice A3 nq c3],.agg #[.int .i64 q1,.int .i64 q2,.int .u64 q3,.int .i64 q4,.slice rA nq rc]] (grow (redrawn W9 d) os) fun e w'=>e=.returned (.bool true)/\∃p:Regrown,w'=grow (redrawn W9 p.d) p.os:=fun d os=>Calls.regrown_of ((hsm _ (dO (below_regrown W9 d os))).mono fun e w' h=>⟨h.1,h.2.below (Nat.le_refl _) (fun _ z=>z.elim)⟩);have hrb:∀d os,Calls Tryz.prog 14 #[.pointer (some ⟨cb,0,none⟩)] (grow (redrawn W9 d) os) fun e w'=>e=.returned (.bool false)/\∃p:Regrown,w'=grow (redrawn W9 p.d) p.os:=fun d os=>(MQ _ (dO (below_regrown W9 d os))).mono fun e w' h=>⟨h.1,⟨d,os⟩,h.2.symm⟩;have hrr:∀d os,Calls Tryz.prog 13 #[.pointer (some ⟨cb,0,none⟩)] (grow (redrawn W9 d) os) fun e w'=>e=.returned (.int .i64 rq)/\∃p:Regrown,w'=grow (redrawn W9 p.d) p.os:=fun d os=>(MR _ (dO (below_regrown W9 d os))).mono fun e w' h=>⟨h.1,⟨d,os⟩,h.2.symm⟩;have k0:=fun d os=>cell_regrown e0 d os;have k1:=fun d os=>cell_regrown e1 d os;have k2:=fun d os=>cell_regrown e2 d os;have k3:=fun d os=>cell_regrown e3 d os;have k4:=fun d os=>cell_regrown e4 d os;have n1:=fun d os=>cell_regrown y1 d os;have n2:=fun d os=>cell_regrown y2 d os;have n3:=fun d os=>cell_regrown y3 d os;have n4:=fun d os=>cell_regrown y4 d os;have n5:=fun d os=>cell_regrown y5 d os;have n6:=fun d os=>cell_regrown y6 d os;have n7:=fun d os=>cell_regrown y7 d os;have n8:=fun d os=>cell_regrown y8 d os;have n9:=fun d os=>cell_regrown y9 d os;have n10:=fun d os=>cell_regrown LW d os;have eh:(hd==hd)=true:=by cases hd<;>rfl
 have Uk:=ah hrs;have BH:=ah hrb;have HRR:=ah hrr;have sJ:=ah hk9;clear hk8 hk9 hbz hrq hdc hds hbx hro hsm MQ MR hrs hrb hrr HS HB4 Hg iU HH BX;go_wp2_with fail;refine wp_region_quiet_below (by kernel_rfl) (by kernel_rfl) ?_;repeat (first|go_big_quiet_step (first|with_reducible exact Uk.out _ _|with_reducible exact BH.out _ _|with_reducible exact HRR.out _ _)|quiet_step (first|with_reducible exact Uk.out _ _|with_reducible exact BH.out _ _|with_reducible exact HRR.out _ _))
 refine wpQuiet_nil ?_;intro _ kZ;obtain⟨⟨dq,osq⟩,kZ⟩:=kZ;subst kZ;have hkq:=sJ.out.then (dO (below_regrown W9 dq osq));obtain⟨Ul,MU⟩:∃Ul,grow (redrawn W9 dq) osq=Ul:=⟨_,rfl⟩;rw[MU]at hkq⊢;have HKQ:=ah hkq;clear hkq MU;go_wp2;go_ret;exact⟨rfl,HKQ.out⟩
theorem Qi(hx:gq w X C)(hy:iR w Y C [])(hi:gI C)(h0:C.has=false->C.r=oH){t:TS}(ht:C.t=some t):Calls Tryz.prog 23 #[.pointer (some ⟨X.cb,0,none⟩),.pointer (some ⟨Y.cb,0,none⟩)] w fun e w'=>e=.returned (.bool true)/\Kept aj w w':=by
 have hlen:=hi.r;have qU:=Jw hx hi.r;unfold Em at qU;have ML:=MK h0;have hbt:C.t.isSome=true:=by rw[ht];rfl
 have hpt:jc Y C=.pointer (some ⟨Y.dx.b,0,none⟩):=by first|exact kE ht|exact dW ht
 obtain⟨cb,hcb⟩:∃cb,X.cb=cb:=⟨_,rfl⟩;obtain⟨db,hdb⟩:∃db,Y.cb=db:=⟨_,rfl⟩;obtain⟨pb,hpb⟩:∃pb,Y.dx.b=pb:=⟨_,rfl⟩;rw[hcb]at qU;rw[hcb,hdb];have hS:∀W,Kept aj w W->Calls Tryz.prog 14 #[.pointer (some ⟨cb,0,none⟩)] W (fun e w'=>e=.returned (.bool true)/\W=w')/\Calls Tryz.prog 13 #[.pointer (some ⟨cb,0,none⟩)] W (fun e w'=>e=.returned (.int .i64 C.req)/\W=w')/\Calls Tryz.prog 10 #[.pointer (some ⟨cb,0,none⟩)] W (fun e w'=>e=.returned (.tuple #[.int .i64 C.ep,.int .i64 C.hd])/\Kept aj W w')/\Has W db 98 (lY Y C [])/\Src W 2 Y.rA C.r.ps.length (bI C.r.ps):=fun W hW=>by have h1:=FV (hx.quiet hW);have h2:=Iq (hx.quiet hW);have h3:=LP (hx.quiet hW);have h4:=(hy.quiet hW).b;have h5:=(hy.quiet hW).r;rw[hcb]at h1 h2 h3;rw[hbt]at h1;rw[hdb]at h4;exact⟨h1,h2,h3,h4,h5⟩
 unfold lY at hS;rw[hpt]at hS;rw[ML]at qU;obtain⟨rp,MN⟩:∃rp,C.r=rp:=⟨_,rfl⟩;rw[MN]at qU hS hlen;obtain⟨q1,q2,q3,q4,qs⟩:=rp;unfold nV iO at qU;dsimp only at qU hS hlen;obtain⟨nq,hnq⟩:∃nq,qs.length=nq:=⟨_,rfl⟩;rw[hnq]at qU hS hlen;obtain⟨hd,hhd⟩:∃hd,C.has=hd:=⟨_,rfl⟩;obtain⟨ep,G5⟩:∃ep,C.ep=ep:=⟨_,rfl⟩;obtain⟨hdd,MP⟩:∃hdd,C.hd=hdd:=⟨_,rfl⟩;obtain⟨rq,hrq⟩:∃rq,C.req=rq:=⟨_,rfl⟩;obtain⟨rA,Ui⟩:∃rA,Y.rA=rA:=⟨_,rfl⟩;obtain⟨rc,hrc⟩:∃rc,Y.rc=rc:=⟨_,rfl⟩;rw[hhd]at qU;rw[hhd,G5,MP,hrq,Ui,hrc,hpb]at hS;have Uj:=ah qU;have HS:=ah hS;have BX:=ah (And.intro hnq hlen);clear qU hS MN hnq hhd G5 MP hrq Ui hrc hcb hdb hpb hpt hbt ht h0 hi hx hy ML hlen;go_enter Tryz.func23,Tryz.ntmps23;go_wp2_with fail;refine Uj.out.mono ?_;rintro e w3 ⟨A3,c3,rfl,hrow3,hk3⟩;obtain⟨W4,jD⟩:∃W4,w3.alloc (.cells #[.int .i64 0,.int .i64 0,.int .u64 0,.int .i64 0,.slice none 0 0] 36)=W4:=⟨_,rfl⟩;obtain⟨b8,hb8⟩:∃b8,w3.heap.size=b8:=⟨_,rfl⟩;have hka:Kept aj w3 W4:=by rw[<-jD];(repeat'(first|(with_reducible first|exact ay|apply aA|apply aB|apply aC|apply aF)|(right;simp;done)))
 have hna:Has W4 b8 36 #[.int .i64 0,.int .i64 0,.int .u64 0,.int .i64 0,.slice none 0 0]:=by rw[<-jD,<-hb8];exact Has.new _ _ _
 have s0:=hna.cell 0;have s1:=hna.cell 1;have s2:=hna.cell 2;have s3:=hna.cell 3;have s4:=hna.cell 4;have KJ:=hna.frozen 0;have sf1:=hna.frozen 1;have sf2:=hna.frozen 2;have sf3:=hna.frozen 3;have sf4:=hna.frozen 4;simp at s0 s1 s2 s3 s4;obtain⟨V4,Hf⟩:∃V4,(((((W4.setCell ⟨b8,0,none⟩ (.int .i64 q1)).setCell ⟨b8,1,none⟩ (.int .i64 q2)).setCell ⟨b8,2,none⟩ (.int .u64 q3)).setCell ⟨b8,3,none⟩ (.int .i64 q4)).setCell ⟨b8,4,none⟩ (.slice A3 nq c3))=V4:=⟨_,rfl⟩;have hb4:Has V4 b8 36 #[.int .i64 q1,.int .i64 q2,.int .u64 q3,.int .i64 q4,.slice A3 nq c3]:=by rw[<-Hf];exact Has.aQ (Has.aQ (Has.aQ (Has.aQ (Has.aQ hna rfl) rfl) rfl) rfl) rfl
 have hkb:Kept aj w3 V4:=by
  have h9:w3.heap.size<=b8:=by omega
  rw[<-Hf];(repeat'(first|(with_reducible first|exact ay|apply aA|apply aB|apply aC|apply aF)|(first|exact hka|(right;exact h9))|(right;simp;done)))
 have hrow4:=hrow3.kept hkb;have hk4:=hk3.then hkb;have hh:=(HS.out V4 hk4).2.2.1;have HH:=ah hh;have HB4:=ah hb4;have Hg:=ah hrow4;have iU:=ah hk4;clear hh hb4 hrow4 hrow3 hk3 hkb hka hna hk4 Uj;go_wp2_with fail;clear jD hb8 s0 s1 s2 s3 s4 KJ sf1 sf2 sf3 sf4 Hf;refine HH.out.mono ?_;rintro e W9 ⟨rfl,hk8⟩;have hk9:=iU.out.then hk8;obtain⟨hbz,hrq,-,hdc,hds⟩:=HS.out W9 hk9;have hbx:=HB4.out.kept hk8 (fun z=>z);have hro:=Hg.out.kept hk8;have hsm:=fun W (hW:Kept aj W9 W)=>G9 W ⟨q1,q2,q3,q4,qs⟩ A3 rA c3 rc (by dsimp only;rw[BX.out.1];exact Src.fA (hro.kept hW).1) (by dsimp only;rw[BX.out.1];exact hds.kept hW (fun _ _ z=>z)) (by dsimp only;rw[BX.out.1];exact BX.out.2);have MQ:=fun W (hW:Kept aj W9 W)=>(HS.out W (hk9.then hW)).1;have MR:=fun W (hW:Kept aj W9 W)=>(HS.out W (hk9.then hW)).2.1;unfold nV iO at hsm;dsimp only at hsm;rw[BX.out.1]at hsm;have e0:=hbx.cell 0;have e1:=hbx.cell 1;have e2:=hbx.cell 2;have e3:=hbx.cell 3;have e4:=hbx.cell 4;have y1:=hdc.cell 1;have y2:=hdc.cell 2;have y3:=hdc.cell 3;have y4:=hdc.cell 4;have y5:=hdc.cell 5;have y6:=hdc.cell 6;have y7:=hdc.cell 7;have y8:=hdc.cell 8;have y9:=hdc.cell 9;have LW:=hdc.cell 10;simp at e0 e1 e2 e3 e4 y1 y2 y3 y4 y5 y6 y7 y8 y9 LW;have hrs:∀d os,Calls Tryz.prog 16 #[.agg #[.int .i64 q1,.int .i64 q2,.int .u64 q3,.int .i64 q4,.slice A3 nq c3],.agg #[.int .i64 q1,.int .i64 q2,.int .u64 q3,.int .i64 q4,.slice rA nq rc]] (grow (redrawn W9 d) os) fun e w'=>e=.returned (.bool true)/\∃p:Regrown,w'=grow (redrawn W9 p.d) p.os:=fun d os=>Calls.regrown_of ((hsm _ (dO (below_regrown W9 d os))).mono fun e w' h=>⟨h.1,h.2.below (Nat.le_refl _) (fun _ z=>z.elim)⟩);have hrb:∀d os,Calls Tryz.prog 14 #[.pointer (some ⟨cb,0,none⟩)] (grow (redrawn W9 d) os) fun e w'=>e=.returned (.bool true)/\∃p:Regrown,w'=grow (redrawn W9 p.d) p.os:=fun d os=>(MQ _ (dO (below_regrown W9 d os))).mono fun e w' h=>⟨h.1,⟨d,os⟩,h.2.symm⟩;have hrr:∀d os,Calls Tryz.prog 13 #[.pointer (some ⟨cb,0,none⟩)] (grow (redrawn W9 d) os) fun e w'=>e=.returned (.int .i64 rq)/\∃p:Regrown,w'=grow (redrawn W9 p.d) p.os:=fun d os=>(MR _ (dO (below_regrown W9 d os))).mono fun e w' h=>⟨h.1,⟨d,os⟩,h.2.symm⟩;have k0:=fun d os=>cell_regrown e0 d os;have k1:=fun d os=>cell_regrown e1 d os;have k2:=fun d os=>cell_regrown e2 d os;have k3:=fun d os=>cell_regrown e3 d os;have k4:=fun d os=>cell_regrown e4 d os;have n1:=fun d os=>cell_regrown y1 d os;have n2:=fun d os=>cell_regrown y2 d os;have n3:=fun d os=>cell_regrown y3 d os;have n4:=fun d os=>cell_regrown y4 d os;have n5:=fun d os=>cell_regrown y5 d os;have n6:=fun d os=>cell_regrown y6 d os;have n7:=fun d os=>cell_regrown y7 d os;have n8:=fun d os=>cell_regrown y8 d os;have n9:=fun d os=>cell_regrown y9 d os;have n10:=fun d os=>cell_regrown LW d os;have eh:(hd==hd)=true:=by cases hd<;>rfl
 have Uk:=ah hrs;have BH:=ah hrb;have HRR:=ah hrr;have sJ:=ah hk9;clear hk8 hk9 hbz hrq hdc hds hbx hro hsm MQ MR hrs hrb hrr HS HB4 Hg iU HH BX;go_wp2_with fail;refine wp_region_quiet_below (by kernel_rfl) (by kernel_rfl) ?_;repeat (first|go_big_quiet_step (first|with_reducible exact Uk.out _ _|with_reducible exact BH.out _ _|with_reducible exact HRR.out _ _)|quiet_step (first|with_reducible exact Uk.out _ _|with_reducible exact BH.out _ _|with_reducible exact HRR.out _ _))
 refine wpQuiet_nil ?_;intro _ kZ;obtain⟨⟨dq,osq⟩,kZ⟩:=kZ;subst kZ;have hkq:=sJ.out.then (dO (below_regrown W9 dq osq));obtain⟨Ul,MU⟩:∃Ul,grow (redrawn W9 dq) osq=Ul:=⟨_,rfl⟩;rw[MU]at hkq⊢;have HKQ:=ah hkq;clear hkq MU;go_wp2;go_ret;exact⟨rfl,HKQ.out⟩
theorem EF(hx:gq w X C)(hy:iR w Y C [])(hi:gI C)(h0:C.has=false->C.r=oH):Calls Tryz.prog 23 #[.pointer (some ⟨X.cb,0,none⟩),.pointer (some ⟨Y.cb,0,none⟩)] w fun e w'=>e=.returned (.bool true)/\Kept aj w w':=by
 cases ht:C.t with
 |none=>exact Qh hx hy hi h0 ht
 |some t=>exact Qi hx hy hi h0 ht
end
end wC
end Go.Proofs.YtgbigpdiacjbgaaGreat
namespace Go.Proofs.YtgbigpdiacjbgaaGreat
open Go.RowKit
namespace wC
open bg Ops fG eP Vn Cli Go.Proofs.YtgbigpdiacjbgaaGreat.Ask
theorem Um(C:dh)(a:iZ):(jq C a).2.1.length<=2:=by
 unfold jq;split
 ·exact Nat.zero_le _
 ·split
  ·exact Nat.zero_le _
  ·exact Nat.le_trans (mO _ _ _) (by decide)
theorem Uy{L:List dS}(h:L.length<=1)(tzz:Int)(m:aO):(bn L tzz m).length<=2:=by have h1:=mO L tzz m;omega
theorem abQ(tzz:Int)(m:aO):(bn [] tzz m).length<=1:=mO [] tzz m
theorem WA(C:dh):(iQ C).2.length<=2:=by
 unfold iQ;split
 ·exact Nat.zero_le _
 ·rename_i t _;split
  ·exact Nat.zero_le _
  ·split
   ·exact Nat.le_trans (mO _ _ _) (by decide)
   ·split
    ·have h1:=abQ (aJ (bu t).1 C.ep C.hd).1 (aJ (bu t).1 C.ep C.hd).2;exact Uy h1 4 {bP with k:=15}
    ·exact Nat.le_trans (mO _ _ _) (by decide)
theorem MV{p:Prop} [Decidable p]{a b:List dS}{n:Nat}(ha:a.length<=n)(hb:b.length<=n):(if p then a else b).length<=n:=by
 split
 ·exact ha
 ·exact hb
theorem Un(C:dh)(f:Int)(s:ByteArray):(jk C f s).2.length<=2:=by
 have h1:∀(q:Prop) [Decidable q] tzz m,(if q then bn [] tzz m else([]:List dS)).length<=1:=fun q _ tzz m=>MV (mO [] _ _) (Nat.zero_le _);unfold jk;split
 ·exact Nat.zero_le _
 ·split
  ·exact Nat.zero_le _
  ·unfold aV;split
   ·exact Nat.zero_le _
   ·exact MV (Uy (h1 _ _ _) _ _) (Nat.le_trans (h1 _ _ _) (by decide))
theorem WB{C C':dh}(h:Once C C')(h0:C.has=false->C.r=oH):C'.has=false->C'.r=oH:=fun e=>by
 by_cases hs:C.t.isSome=true->C'.t.isSome=true
 ·have h1:=h.same hs;rw[h1.2];exact h0 (h1.1.symm.trans e)
 ·have h2:C.t.isSome=true:=by
   by_cases h3:C.t.isSome=true
   ·exact h3
   ·exact absurd (fun z=>absurd z h3) hs
  have h4:C'.t=none:=by
   cases e2:C'.t with
   |none=>rfl
   |some t=>exact absurd (fun _=>by rw[e2];rfl) hs
  have h5:=(h.done h2 h4).1;rw[e]at h5;cases h5
section
variable{w V W w6 w7:World}{cb db:Nat}{X X6:CX}{Y Y7:sS}{C C6:dh}{A A7:Option Addr}{ca c7:Nat}{L:List dS}
structure EG(w:World)(cb db:Nat)(W:World)(X:CX)(Y:sS)(C:dh):Prop where
 c:CZ w cb W X C
 d:iR W Y C []
 db:Y.cb=db
 fd:∀k,gX Y C [] k->w.heap.size<=k
 ap:∀k,pG X C k->¬gX Y C [] k
 rp:C.has=false->C.r=oH
theorem EG.quiet(h:EG w cb db V X Y C)(hk:Kept aj V W):EG w cb db W X Y C:=⟨h.c.quiet hk,h.d.quiet hk,h.db,h.fd,h.ap,h.rp⟩
structure ES(w:World)(cb db:Nat)(Y:sS)(C:dh)(W:World)(X6:CX)(C6:dh)(A:Option Addr)(ca:Nat)(L:List dS):Prop where
 c:CZ w cb W X6 C6
 d:iR W Y C []
 db:Y.cb=db
 fd:∀k,gX Y C [] k->w.heap.size<=k
 ap:∀k,pG X6 C6 k->¬gX Y C [] k
 o:W.ownsRow 0 54 2 (.slice A L.length ca) L.length (lI L)
 oa:∀k,(Value.slice A L.length ca).ownBlock=some k->¬gX Y C [] k
 rp:C6.has=false->C6.r=oH
theorem EG.half(h:EG w cb db V X Y C)(hW:Kept aj V W)(hs:gV W X C w6 X6 C6)(ho:uy W w6 A ca L)(hi:gI C6)(hon:Once C C6):ES w cb db Y C w6 X6 C6 A ca L:=
 ⟨(h.c.quiet hW).step hs hi,(h.d.quiet hW).lQ hs.k (fun k hk hc=>h.ap k hc hk),h.db,h.fd,fun k hk hd=>by
   rcases hs.g k hk with y|y
   ·exact h.ap k y hd
   ·have:=h.d.lt hd;have:=hW.size;omega,ho.1,fun k hk hd=>by have:=ho.2 k hk;have:=h.d.lt hd;have:=hW.size;omega,WB hon h.rp⟩
theorem ES.quiet(h:ES w cb db Y C V X6 C6 A ca L)(hk:Kept aj V W):ES w cb db Y C W X6 C6 A ca L:=⟨h.c.quiet hk,h.d.quiet hk,h.db,h.fd,h.ap,aP h.o hk (fun _ _ z=>z),h.oa,h.rp⟩
theorem ES.full(h:ES w cb db Y C V X6 C6 A ca L)(hW:Kept aj V W)(hs:aW W Y C [] w7 Y7 C6 [])(hr:Src w7 2 A7 L.length (lI L)):EG w cb db w7 X6 Y7 C6/\Src w7 2 A L.length (lI L)/\Src w7 2 A7 L.length (lI L):=by
 have hc:=h.c.quiet hW;refine⟨⟨⟨hc.at'.lQ hs.k h.ap,hc.cb,hc.inv,hc.fr,hc.k.trans hs.k (fun k hk=> .inr (h.fd k hk))⟩,hs.at',hs.cb.trans h.db,fun k hk=> ?_,fun k hk hd=> ?_,h.rp⟩,Src.fA (aP (aP h.o hW (fun _ _ z=>z)) hs.k h.oa),hr⟩
 ·rcases hs.g k hk with y|y
  ·exact h.fd k y
  ·have:=hc.k.size;omega
 ·rcases hs.g k hd with y|y
  ·exact h.ap k hk y
  ·have:=hc.at'.lt hk;omega
end
end wC
end Go.Proofs.YtgbigpdiacjbgaaGreat
namespace Go.Proofs.YtgbigpdiacjbgaaGreat
open Go.ChangeShapes Go.WideShapes Go.ChangeAt
open Go.RowKit
namespace Cli
open bg Ops fG eP MO Vn Go.Proofs.YtgbigpdiacjbgaaGreat.Ask
def Hl(w:World)(x:sF):Prop:=uZ w x.a/\I64 x.k/\I64 x.fr/\x.body.size<=maxLen
section
variable{H:Type}{enc:TypeId×Value->H}{W:World}{v:Value}{d:DataW H}{ps:List MemPlace}{r:Reach}{b0:Nat}
theorem Qj(fuel:Nat)(cs:List Value)(y:DataW H×List MemPlace)(hy:DataW.trod enc Tryz.prog W 0 (fun _=>true) true fuel 28 cs=some y):∃a,cs=yN a/\Hl W a:=by
 obtain⟨hl,n,hf⟩:=Kq Tryz.underlying28 hy;have hC:Tryz.prog.cellsOf 28=10:=by kernel_rfl
 rw[hC]at hl;have e3:Tryz.prog.cellsOf 3=1:=by kernel_rfl
 have e9:Tryz.prog.cellsOf 9=1:=by kernel_rfl
 have eA:Tryz.prog.cellsOf 25=7:=by kernel_rfl
 match cs,hl with
 |[c0,c1,c2,c3,c4,c5,c6,c7,c8,c9],_=>
  obtain⟨_,h0⟩:=hf 0 _ rfl;obtain⟨z1,h1⟩:=hf 1 _ rfl;obtain⟨_,h2⟩:=hf 2 _ rfl;obtain⟨_,h3⟩:=hf 3 _ rfl;obtain⟨x0,hx0,_,m0⟩:=DataW.trod_int Tryz.underlying3 h0;obtain⟨x2,hx2,_,m2⟩:=DataW.trod_int Tryz.underlying3 h2;obtain⟨x3,hx3,_,m3⟩:=DataW.trod_string Tryz.underlying9 h3;simp[e3]at hx0 hx2;simp[e9]at hx3;have h1':DataW.trod enc Tryz.prog W 0 (fun _=>true) true n 25 ([c1,c2,c3,c4,c5,c6,c7,c8,c9].take (Tryz.prog.cellsOf 25))=some z1:=h1;rw[eA]at h1';subst hx0 hx2 hx3;obtain⟨x,hx,hg⟩:=QA _ _ _ h1';refine⟨⟨x0,x,x2,x3⟩,?_,hg,m0,m2,m3⟩;unfold yN;dsimp only;rw[<-hx];rfl
theorem Qk(hv:Value.okWide Tryz.prog W r b0 29 v)(h:DataW.Trod enc Tryz.prog W 0 (fun _=>true) true 29 v d ps):
  ∃(A:Option Addr) (c:Nat) (l:List sF),v=.slice A l.length c/\l.length<=c/\c<=maxLen/\Src W 10 A l.length (BU l)/\(∀x∈l,Hl W x):=by
 have _:Inhabited sF:=⟨⟨0,⟨0,0,⟨#[]⟩,⟨#[]⟩,0,0,none,0,[]⟩,0,⟨#[]⟩⟩⟩;obtain⟨A,c,l,h1,h2,h3,h4,h5,_⟩:=IJ (α:=sF) yN (Hl W) 10 Tryz.underlying29 (by kernel_rfl) (by decide) (fun _=>rfl) Qj h (okWide_slice Tryz.underlying29 hv);exact⟨A,c,l,h1,h2,h3,h4,h5⟩
end
end Cli
end Go.Proofs.YtgbigpdiacjbgaaGreat
namespace Go.Proofs.YtgbigpdiacjbgaaGreat
open Go.RowKit
namespace Cli
open bg Ops fG eP Vn Go.Proofs.YtgbigpdiacjbgaaGreat.Ask
attribute [local go_sem↓] bW cZ qB
attribute [local go_sem] rW
theorem IC(a:Addr){j:Nat}(hj:j≠0):a.add j=⟨a.block,a.off+j,none⟩:=by unfold Addr.add;rw[if_neg hj]
theorem Uo{w:World}{ad:Addr}{x:sF}(h:∀j u,(yN x)[j]? =some u->w.cell? (ad.add j)=some u):(EO ⟨ad.block,ad.off+1,none⟩).run Tryz.prog w=.ok (pN x.a) w:=by
 obtain⟨h1,h2⟩:=LK (w:=w) (a:=⟨ad.block,ad.off+1,none⟩) (cs:=bQ x.a) rfl (fun j u hu=>by
  have h3:=h (j+1) u (by
   have h4:(bQ x.a)[j]? =some u:=hu;have h5:j<7:=by have:=(lD0.1 h4).1;exact this
   show(bQ x.a++[.int .i64 x.fr,.string x.body])[j]? =some u;rw[List.getElem?_append_left (by exact h5)];exact h4)
  rw[IC _ (by omega)]at h3;have e:(⟨ad.block,ad.off+1,none⟩:Addr).add j=⟨ad.block,ad.off+(j+1),none⟩:=by
   unfold Addr.add;by_cases hj:j=0
   ·subst hj;rw[if_pos rfl]
   ·rw[if_neg hj];simp;omega
  rw[e];exact h3)
 rw[rW w _ h1,h2]

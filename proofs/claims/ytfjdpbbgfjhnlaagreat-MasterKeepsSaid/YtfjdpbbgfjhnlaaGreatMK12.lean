/- Part 13 of what the proof needs. -/
import Derived.Test.YtfjdpbbgfjhnlaaGreatMK11
set_option linter.unusedSimpArgs false
set_option linter.unusedVariables false
set_option maxHeartbeats 32000000
set_option maxRecDepth 100000
namespace Go.Proofs.YtfjdpbbgfjhnlaaGreat
open Go.RowKit Go.Shelf Go.Maps
set_option maxRecDepth 100000
namespace aO
theorem cu.cat{b:Nat}{w w':World}{A A':Option Addr}{n c c' m:Nat}{l l2:List Mem}(h:cu b w A n c l)(hb:b<=w.heap.size)(hm:m=l2.length)
  (ho:w'.ownsRow 0 65 2 (.slice A' (n+m) c') (n+m) (aP l++aP l2))
  (ha:(Value.slice A' (n+m) c').ownBlock=(Value.slice A n c).ownBlock\/(Value.slice A' (n+m) c').ownBlock=some w.heap.size):cu b w' A' (n+m) c' (l++l2):=by
 refine⟨by rw[h.1,hm];simp,by rw[xk];exact ho,fun k hk=> ?_⟩
 rcases ha with e|e
 ·exact h.2.2 k (e.symm.trans hk)
 ·rw[hk]at e
  injection e with e
  omega
theorem Uj(w:World)(x:Nat)(A B:Option Addr)(n c m d:Nat)(l l2:List Mem)(hx:Has w x 22 #[.slice A n c,.slice B m d])(hn:n=l.length)(hm:m=l2.length)(hl:Src w 2 A l.length (aP l))(hl2:Src w 2 B l2.length (aP l2))
  (hpos:0<n) (hle:n+m<=5000):
  Calls Tryz.prog 183 #[.slice (some ⟨x,0,none⟩) 2 2] w fun e w'=>(∃O k oc,e=.returned (.slice O k oc)/\cu w.heap.size w' O k oc (l++l2))/\Kept aj w w':=by
 rw[<-hn]at hl
 rw[<-hm]at hl2
 have x0:w.cell? ⟨x,0,none⟩=some (.slice A n c):=hx.cell 0
 have x1:w.cell? ⟨x,1,none⟩=some (.slice B m d):=hx.cell 1
 have HX:=ah hx;clear hx
 have HL:=ah hl;clear hl
 have HL2:=ah hl2;clear hl2
 have HN:=ah hn;clear hn
 have HM:=ah hm;clear hm
 go_enter Tryz.func183,Tryz.ntmps183
 go_wp2_with fail
 go_loopg [3,5,11] 3 (fun gg v3 _ v11 wr=>w=wr/\((v11=.int .i64 0/\v3=.int .i64 0/\2<=gg)\/(v11=.int .i64 1/\v3=.int .i64 n/\1<=gg)\/(v11=.int .i64 2/\v3=.int .i64 (n+m:Nat))))
 case atStart=>exact⟨rfl,.inl ⟨rfl,rfl,by decide⟩⟩
 case round=>
  obtain⟨rfl,⟨rfl,rfl,hg⟩|⟨rfl,rfl,hg⟩|⟨rfl,rfl⟩⟩:=hrel
  ·go_wp2
   go_roundg 1
   case measure=>omega
   case rel=>exact⟨rfl,.inr (.inl ⟨rfl,rfl,by decide⟩)⟩
  ·go_wp2
   go_roundg 0
   case measure=>omega
   case rel=>exact⟨rfl,.inr (.inr ⟨rfl,by go_num⟩)⟩
  ·go_wp2_with fail
   refine(aaB _ (n+m) (by omega) (by omega)).mono ?_
   rintro e w2 ⟨⟨O,oc,rfl,hrow⟩,hk⟩
   have hx2:=HX.out.kept hk (fun x=>x)
   have HX2:=ah hx2;clear hx2
   have bV:=ah hrow;clear hrow
   have HK:=ah hk;clear hk
   clear x0 x1
   have hS1:Hid (0+n<=maxLen):=ah (by unfold maxLen;omega)
   have hS2:Hid ((0+n)*16<=140737488355328):=ah (by omega)
   have hS3:Hid (n+m<=maxLen):=ah (by unfold maxLen;omega)
   have hS4:Hid ((n+m)*16<=140737488355328):=ah (by omega)
   go_wp2_with fail
   go_loopg [6,27] 3 (fun gg v6 v27 wr=>∃(O:Option Addr) (k oc:Nat),v6=.slice O k oc/\Kept aj w wr/\((v27=.int .i64 0/\k=0/\cu w.heap.size wr O k oc []/\2<=gg)\/(v27=.int .i64 1/\k=n/\cu w.heap.size wr O k oc l/\1<=gg)\/(v27=.int .i64 2/\cu w.heap.size wr O k oc (l++l2))))
   case atStart=>exact⟨O,0,oc,rfl,HK.out,.inl ⟨rfl,rfl,bV.out,by decide⟩⟩
   case round=>
    obtain⟨O,k,oc,rfl,hk,⟨rfl,rfl,hrow,hg⟩|⟨rfl,rfl,hrow,hg⟩|⟨rfl,hrow⟩⟩:=hrel
    ·have hx3:=HX.out.kept hk (fun x=>x)
     have x0:wr.cell? ⟨x,0,none⟩=some (.slice A n c):=hx3.cell 0
     have qL:=ah hrow;clear hrow
     have bn:=ah hk;clear hk hx3
     go_wp2_with (at_builtin;refine aN nP (.tmp 31) (.tmp 32) rfl rfl (Value.slice O 0 oc) rfl qL.out.2.1 c rfl (HL.out.kept bn.out (fun _ _ x=>x)) (RV l) hS1.out hS2.out ?_;intro O3 Dw w9 ho3 hg3 yL)
     have FX:=bn.out.size
     have hn3:cu w.heap.size w9 O3 (0+n) Dw ([]++l):=qL.out.cat (by omega) HN.out (by simpa [aP]using ho3) yL
     have hk9:Kept aj w w9:=bn.out.grown hg3 (fun k hk=> .inr (qL.out.2.2 k hk))
     simp only[Nat.zero_add,List.nil_append]at hn3⊢
     clear ho3 hg3 yL
     have mF:=ah hn3;clear hn3
     have nK:=ah hk9;clear hk9
     go_wp2
     go_roundg 1
     case measure=>omega
     case rel=>exact⟨O3,n,Dw,rfl,nK.out,.inr (.inl ⟨rfl,rfl,mF.out,by decide⟩)⟩
    ·have hx3:=HX.out.kept hk (fun x=>x)
     have x1:wr.cell? ⟨x,1,none⟩=some (.slice B m d):=hx3.cell 1
     have qL:=ah hrow;clear hrow
     have bn:=ah hk;clear hk hx3
     go_wp2_with (at_builtin;refine aN nP (.tmp 31) (.tmp 32) rfl rfl (Value.slice O k oc) rfl qL.out.2.1 d rfl (HL2.out.kept bn.out (fun _ _ x=>x)) (RV l2) hS3.out hS4.out ?_;intro O3 Dw w9 ho3 hg3 yL)
     have FX:=bn.out.size
     have hn3:cu w.heap.size w9 O3 (k+m) Dw (l++l2):=qL.out.cat (by omega) HM.out ho3 yL
     have hk9:Kept aj w w9:=bn.out.grown hg3 (fun k hk=> .inr (qL.out.2.2 k hk))
     clear ho3 hg3 yL
     have mF:=ah hn3;clear hn3
     have nK:=ah hk9;clear hk9
     go_wp2
     go_roundg 0
     case measure=>omega
     case rel=>exact⟨O3,k+m,Dw,rfl,nK.out,.inr (.inr ⟨rfl,mF.out⟩)⟩
    ·have qL:=ah hrow;clear hrow
     have bn:=ah hk;clear hk
     go_wp2
     go_ret
     exact⟨⟨O,k,oc,rfl,qL.out⟩,bn.out⟩
theorem Xk{w:World}{B:Nat}{A:Option Addr}{n c:Nat}{ss:List Int}(h:fA B w A n c ss)(hsz:ss.length<4611686018427387904):
  Calls Tryz.prog 64 #[.slice A n c] w fun e w'=>e=.returned (.tuple #[])/\fA B w' A n c (ss.mergeSort fun x y=>decide (x<=y))/\Kept (RowOf (.slice A n c)) w w':=by
 obtain⟨rfl,h,hb⟩:=h
 have h':=h
 rcases h.2 with⟨hv,h0⟩|⟨g,cap,cur,hv,hb',hg,h1,h2,h3,h4⟩
 ·have hs:ss=[]:=List.eq_nil_of_length_eq_zero h0
  subst hs
  refine(Xb.slices_Sort_int_none A c w).mono ?_
  rintro e w' ⟨rfl,rfl⟩
  exact⟨rfl,⟨by simp,by simpa using h',hb⟩,Kept.refl _ _⟩
 ·injection hv with e1 e2 e3
  subst e1
  subst e3
  refine(Xb.slices_Sort_int g 0 c ss w (holds_of_blockI hg (by simpa using h4)) (Array.getElem?_eq_some_iff.1 hg).1 hsz).mono ?_
  rintro e w' ⟨rfl,n,os,rfl⟩
  exact⟨rfl,⟨by simp,ownsRow_sortedI (by simp) hb' hg h1 h2 h3,hb⟩,(Kept.refl _ _).grownBy (grownBy_sortedI _) (fun k hk=> .inl hk)⟩
end aO
end Go.Proofs.YtfjdpbbgfjhnlaaGreat
namespace Go.Proofs.YtfjdpbbgfjhnlaaGreat
open Go.RowKit
set_option maxRecDepth 100000
namespace dM
open aO Vn Mst lV
theorem rows_apart{w:World}{e1 e2:TypeId}{s1 s2 n1 n2:Nat}{v1 v2:Value}{x1 x2:List Value}(h1:w.ownsRow 0 e1 s1 v1 n1 x1)(h2:w.ownsRow 0 e2 s2 v2 n2 x2)(hne:e2≠e1):∀g,v1.ownBlock=some g->¬v2.ownBlock=some g:=fun g hg hg2=>by
 obtain⟨cs,hh⟩:=jC h1 hg
 exact own_ne h2 hh hne hg2
theorem aF.beside{e e2:TypeId}{size size2 n c n2 c2 B:Nat}{w w1 w':World}{A A2:Option Addr}{xs xs2:List Value}(h:aF e size B w A n c xs)(hk:Kept aj w w1)(h2:aF e2 size2 B w A2 n2 c2 xs2)(hne:e2≠e)
  (hg:w1.grownBy w' (Value.slice A2 n2 c2).ownBlock):aF e size B w' A n c xs:=
 ⟨aC (F:=fun k=>(Value.slice A2 n2 c2).ownBlock=some k) (aC h.1 hk (fun _ _ z=>z)) ((Kept.refl _ w1).grownBy hg fun k hk=> .inl hk) (fun g hg2=>rows_apart h.1 h2.1 hne g hg2),h.2⟩
def fK(l:List aY):List aY:=(l.filter fun p=>decide (1<p.left)).map fun p=>⟨p.id,p.at',p.left-1⟩
def iG(l:List aY):List Int:=(l.filter fun p=> !decide (1<p.left)).map fun p=>p.id
theorem Xl{l:List aY}{i:Nat}{p:aY}(h:l[i]? =some p):fK (l.take (i+1))=if 1<p.left then fK (l.take i)++[⟨p.id,p.at',p.left-1⟩]else fK (l.take i):=by
 obtain⟨hi,he⟩:=List.getElem?_eq_some_iff.1 h
 unfold fK
 rw[List.take_succ_eq_append_getElem hi,he,List.filter_append,List.map_append]
 by_cases hp:1<p.left
 ·rw[if_pos hp,List.filter_cons,if_pos (decide_eq_true hp)];rfl
 ·rw[if_neg hp,List.filter_cons,if_neg (by simpa using hp)];simp
theorem adk{l:List aY}{i:Nat}{p:aY}(h:l[i]? =some p):iG (l.take (i+1))=if 1<p.left then iG (l.take i)else iG (l.take i)++[p.id]:=by
 obtain⟨hi,he⟩:=List.getElem?_eq_some_iff.1 h
 unfold iG
 rw[List.take_succ_eq_append_getElem hi,he,List.filter_append,List.map_append]
 by_cases hp:1<p.left
 ·rw[if_pos hp,List.filter_cons,if_neg (by simpa using hp)];simp
 ·rw[if_neg hp,List.filter_cons,if_pos (by simpa using hp)];rfl
theorem Io(l:List aY):(fK l).length<=l.length:=by
 unfold fK;rw[List.length_map];exact List.length_filter_le _ _
theorem Oa(l:List aY):(iG l).length<=l.length:=by
 unfold iG;rw[List.length_map];exact List.length_filter_le _ _
theorem Ae(l:List aY)(p:aY):aS (l++[p])=aS l++[.int .i64 p.id,.int .u64 p.at',.int .i64 p.left]:=by
 unfold aS
 rw[List.flatMap_append]
 rfl
def Ob(w:World)(l:List aY)(e:Ending)(w':World):Prop:=∃A c B d,e=.returned (.tuple #[.slice A (fK l).length c,.slice B (iG l).length d])/\aF 53 3 w.heap.size w' A (fK l).length c (aS (fK l))/\aF 3 1 w.heap.size w' B (iG l).length d (ints (iG l))/\Kept aj w w'
theorem Xm(w:World)(A0:Option Addr)(c0:Nat)(l:List aY)(hl:Src w 3 A0 l.length (aS l))(hlen:l.length<=1000)(hleft:∀p∈l,0<=p.left/\p.left<=1000000):
  Calls Tryz.prog 52 #[.slice A0 l.length c0] w (Ob w l):=by
 have HL:=ah hl;have HLF:=ah hleft;clear hl hleft
 go_enter Tryz.func52,Tryz.ntmps52
 go_wp2_with fail
 go_loopw [4,5,10] (fun v4 v5 v10 wr=>∃(i:Nat) (A:Option Addr) (c:Nat) (B:Option Addr) (d:Nat),i<=l.length/\v10=.int .i64 i/\v4=.slice A (fK (l.take i)).length c/\v5=.slice B (iG (l.take i)).length d/\
  aF 53 3 w.heap.size wr A (fK (l.take i)).length c (aS (fK (l.take i)))/\aF 3 1 w.heap.size wr B (iG (l.take i)).length d (ints (iG (l.take i)))/\Kept aj w wr) (fun _ _ v10 _=>l.length-(intOf v10).toNat)
 case atStart=>exact⟨0,none,0,none,0,Nat.zero_le _,rfl,rfl,rfl,aF.nil _ _ _ _,aF.nil _ _ _ _,Kept.refl _ _⟩
 case round=>
  obtain⟨i,A,c,B,d,hi,rfl,rfl,rfl,hr1,hr2,hk⟩:=hrel
  by_cases hil:i<l.length
  ·obtain⟨p,hp⟩:∃p,l[i]? =some p:=⟨_,List.getElem?_eq_getElem hil⟩
   obtain⟨ad,rfl,hl1,x0,x1,x2⟩:=jw (HL.out.kept hk (fun _ _ x=>x)) (by omega) i p hp
   have ht:=Xl hp
   have hg:=adk hp
   have hpl:=HLF.out p (List.mem_of_getElem? hp)
   have b1:=Io (l.take i)
   have b2:=Oa (l.take i)
   have b3:(l.take i).length<=1000:=by rw[List.length_take];omega
   obtain⟨T,hT⟩:∃T,fK (l.take i)=T:=⟨_,rfl⟩
   obtain⟨G,hG⟩:∃G,iG (l.take i)=G:=⟨_,rfl⟩
   rw[hT]at ht hr1 b1⊢
   rw[hG]at hg hr2 b2⊢
   have HR1:=ah hr1;have HR2:=ah hr2;have HK:=ah hk;have HT:=ah ht;have HG:=ah hg
   clear hp ht hg hT hG hr1 hr2 hk
   obtain⟨q1,q2,q3⟩:=p
   dsimp only at hpl x0 x1 x2
   have hb3:0<=q3/\q3<=1000000:=hpl
   have gq:Hid (T.length+1<=maxLen):=ah (by unfold maxLen;omega)
   have iO:Hid ((T.length+1)*24<=140737488355328):=ah (by omega)
   have yM:Hid (G.length+1<=maxLen):=ah (by unfold maxLen;omega)
   have AY:Hid ((G.length+1)*8<=140737488355328):=ah (by omega)
   clear hpl b1 b2 b3
   by_cases h1:1<q3
   ·have ht1:=HT.out
    have hg1:=HG.out
    dsimp only at ht1 hg1
    rw[if_pos h1]at ht1 hg1
    have HT1:=ah ht1;have iD:=ah hg1;clear ht1 hg1 HT HG
    have h2:¬q3<=1:=by omega
    go_wp2_with (at_builtin;refine aN AU (.tmp 26) (.tmp 28) rfl rfl (Value.slice A T.length c) rfl (aC HR1.out.1 (F:=aj) (by(repeat'(first|(with_reducible first|exact ak|apply au|apply ay|apply aA|apply aB)|(right;simp;done)))) (fun _ _ x=>x)) 1 rfl (Src.dn (t:=53) (size:=3) (m:=1) (cs:=#[.int .i64 q1,.int .u64 q2,.int .i64 (q3-1)]) (by(repeat (with_reducible first|exact Has.bT _ _ _ (by simp)|apply Has.drew|apply Has.drewN|apply Has.alloc|(apply Has.past<;>(try omega))))) rfl) (by simp[Value.oneCell']) gq.out iO.out ?_;intro A1 c1 w9 ho1 hg1 ha1;have hpush:=aF.pushed HR1.out (by(repeat'(first|(with_reducible first|exact ak|apply au|apply ay|apply aA|apply aB)|(exact HK.out)|(right;simp;done)))) ho1 hg1 ha1;have HP:=ah hpush;have fQ:=aF.beside HR2.out (by(repeat'(first|(with_reducible first|exact ak|apply au|apply ay|apply aA|apply aB)|(right;simp;done)))) HR1.out (by decide) hg1;have yN:=ah fQ;clear ho1 hg1 ha1 hpush fQ)
    go_roundw
    case rel=>exact⟨i+1,A1,c1,B,d,by omega,by go_num,by rw[HT1.out,List.length_append];rfl,by rw[iD.out],by rw[HT1.out,Ae,List.length_append];exact HP.out.1,by rw[iD.out];exact yN.out,HP.out.2⟩
    case measure=>simp[intOf];omega
   ·have ht1:=HT.out
    have hg1:=HG.out
    dsimp only at ht1 hg1
    rw[if_neg h1]at ht1 hg1
    have HT1:=ah ht1;have iD:=ah hg1;clear ht1 hg1 HT HG
    have h2:q3<=1:=by omega
    go_wp2_with (at_builtin;refine aN aO.jQ (.tmp 17) (.tmp 20) rfl rfl (Value.slice B G.length d) rfl (aC HR2.out.1 (F:=aj) (by(repeat'(first|(with_reducible first|exact ak|apply au|apply ay|apply aA|apply aB)|(right;simp;done)))) (fun _ _ x=>x)) 1 rfl (Src.dn (t:=3) (size:=1) (m:=1) (cs:=#[.int .i64 q1]) (by(repeat (with_reducible first|exact Has.bT _ _ _ (by simp)|apply Has.drew|apply Has.drewN|apply Has.alloc|(apply Has.past<;>(try omega))))) rfl) (by simp[Value.oneCell']) yM.out AY.out ?_;intro A1 c1 w9 ho1 hg1 ha1;have hpush:=aF.pushed HR2.out (by(repeat'(first|(with_reducible first|exact ak|apply au|apply ay|apply aA|apply aB)|(exact HK.out)|(right;simp;done)))) ho1 hg1 ha1;have HP:=ah hpush;have fQ:=aF.beside HR1.out (by(repeat'(first|(with_reducible first|exact ak|apply au|apply ay|apply aA|apply aB)|(right;simp;done)))) HR2.out (by decide) hg1;have yN:=ah fQ;clear ho1 hg1 ha1 hpush fQ)
    go_roundw
    case rel=>exact⟨i+1,A,c,A1,c1,by omega,by go_num,by rw[HT1.out],by rw[iD.out,List.length_append];rfl,by rw[HT1.out];exact yN.out,by rw[iD.out,List.length_append];simpa [ints]using HP.out.1,HP.out.2⟩
    case measure=>simp[intOf];omega
  ·obtain rfl:i=l.length:=by omega
   rw[List.take_length]at hr1 hr2⊢
   have HR1:=ah hr1;have HR2:=ah hr2;have HK:=ah hk;clear hr1 hr2 hk
   go_wp2
   go_ret2
   exact⟨A,c,B,d,rfl,HR1.out,HR2.out,HK.out⟩
end dM
namespace dM
open aO Vn Mst lV
def gu(l:List aY):Int:=match l.getLast? with|some p=>p.id|none=>0
def jS(l:List aY)(id:Int):Int:=if 3<=l.length then 17 else if id<1\/1073741824<id then 1 else if 0<l.length/\id<=gu l then 18 else 0
theorem last_at{l:List aY}{p:aY}(h:l[l.length-1]? =some p):gu l=p.id:=by unfold gu;rw[List.getLast?_eq_getElem?,h]
theorem Xn(w:World)(A:Option Addr)(c:Nat)(l:List aY)(id at':Int)(hl:Src w 3 A l.length (aS l))(hlc:l.length<=c)(h0:jS l id≠0):
  Calls Tryz.prog 234 #[.slice A l.length c,.int .i64 id,.int .u64 at'] w fun e w'=>e=.returned (.tuple #[.slice none 0 0,.int .i64 (jS l id)])/\Kept aj w w':=by
 by_cases h1:3<=l.length
 ·have hE:jS l id=17:=by unfold jS;rw[if_pos h1]
  rw[hE]
  clear hE hl h0
  go_enter Tryz.func234,Tryz.ntmps234
  go_wp2
  go_ret2
  exact⟨rfl,Kept.refl _ _⟩
 by_cases h2:id<1
 ·have hE:jS l id=1:=by unfold jS;rw[if_neg h1,if_pos (.inl h2)]
  rw[hE]
  clear hE hl h0
  go_enter Tryz.func234,Tryz.ntmps234
  go_wp2
  go_ret2
  exact⟨rfl,Kept.refl _ _⟩
 by_cases h3:1073741824<id
 ·have hE:jS l id=1:=by unfold jS;rw[if_neg h1,if_pos (.inr h3)]
  rw[hE]
  clear hE hl h0
  go_enter Tryz.func234,Tryz.ntmps234
  go_wp2
  go_ret2
  exact⟨rfl,Kept.refl _ _⟩
 have hE0:jS l id=if 0<l.length/\id<=gu l then 18 else 0:=by unfold jS;rw[if_neg h1,if_neg (by omega)]
 by_cases h4:0<l.length/\id<=gu l
 ·have hE:jS l id=18:=by rw[hE0,if_pos h4]
  obtain⟨p,hp⟩:∃p,l[l.length-1]? =some p:=⟨_,List.getElem?_eq_getElem (by omega)⟩
  obtain⟨h4,h5⟩:=h4
  rw[last_at hp]at h5
  obtain⟨ad,rfl,had,x0,x1,x2⟩:=jw hl h4 (l.length-1) p hp
  rw[hE]
  clear hE hl hE0 h0 hp
  have hz:((l.length:Int)-1)=((l.length-1:Nat):Int):=by omega
  have hw:IntKind.i64.wrap ((l.length:Int)-1)=((l.length-1:Nat):Int):=by rw[hz];exact IntWalk.i64_in _ (by omega)
  go_enter Tryz.func234,Tryz.ntmps234
  go_wp2
  go_ret2
  exact⟨rfl,Kept.refl _ _⟩
 ·rw[hE0,if_neg h4]at h0;exact absurd rfl h0
def Xo(w:World)(l:List aY)(id at':Int)(e:Ending)(w':World):Prop:=
 ∃A c,e=.returned (.tuple #[.slice A (l.length+1) c,.int .i64 0])/\aF 53 3 w.heap.size w' A (l.length+1) c (aS (l++[⟨id,at',8⟩]))/\Kept aj w w'
theorem aaC(w:World)(A:Option Addr)(c:Nat)(l:List aY)(id at':Int)(hl:Src w 3 A l.length (aS l))(hlc:l.length<=c)(h0:jS l id=0):
  Calls Tryz.prog 234 #[.slice A l.length c,.int .i64 id,.int .u64 at'] w (Xo w l id at'):=by
 have h1:¬3<=l.length:=fun h=>by unfold jS at h0;rw[if_pos h]at h0;cases h0
 have h23:¬(id<1\/1073741824<id):=fun h=>by unfold jS at h0;rw[if_neg h1,if_pos h]at h0;cases h0
 have h4:¬(0<l.length/\id<=gu l):=fun h=>by unfold jS at h0;rw[if_neg h1,if_neg h23,if_pos h]at h0;cases h0
 have h2:¬id<1:=by omega
 have h3:¬1073741824<id:=by omega
 have hclone:=pG w A c l hl (by omega)
 have nX:=ah hclone;clear hclone h0 h23
 have gq:Hid (l.length+1<=maxLen):=ah (by unfold maxLen;omega)
 by_cases h5:0<l.length
 ·obtain⟨p,hp⟩:∃p,l[l.length-1]? =some p:=⟨_,List.getElem?_eq_getElem (by omega)⟩
  have h6:¬id<=p.id:=fun h=>h4 ⟨h5,by rw[last_at hp];exact h⟩
  obtain⟨ad,rfl,had,x0,x1,x2⟩:=jw hl h5 (l.length-1) p hp
  clear hl hp h4
  have hz:((l.length:Int)-1)=((l.length-1:Nat):Int):=by omega
  have hw:IntKind.i64.wrap ((l.length:Int)-1)=((l.length-1:Nat):Int):=by rw[hz];exact IntWalk.i64_in _ (by omega)
  go_enter Tryz.func234,Tryz.ntmps234
  go_wp2_with fail
  refine nX.out.mono ?_
  rintro e w2 ⟨A2,c2,rfl,hr,hk⟩
  have HR:=ah hr;have HK:=ah hk;clear hr hk
  go_wp2_with (at_builtin;refine aN AU (.tmp 35) (.tmp 39) rfl rfl (Value.slice A2 l.length c2) rfl (aC HR.out.1 (F:=aj) (by(repeat'(first|(with_reducible first|exact ak|apply au|apply ay|apply aA|apply aB)|(right;simp;done)))) (fun _ _ x=>x)) 1 rfl (Src.dn (t:=53) (size:=3) (m:=1) (cs:=#[.int .i64 id,.int .u64 at',.int .i64 8]) (by(repeat (with_reducible first|exact Has.bT _ _ _ (by simp)|apply Has.drew|apply Has.drewN|apply Has.alloc|(apply Has.past<;>(try omega))))) rfl) (by simp[Value.oneCell']) gq.out (by omega) ?_;intro A1 c1 w9 ho1 hg1 ha1;have hpush:=aF.pushed HR.out (by(repeat'(first|(with_reducible first|exact ak|apply au|apply ay|apply aA|apply aB)|(exact HK.out)|(right;simp;done)))) ho1 hg1 ha1;have HP:=ah hpush;clear ho1 hg1 ha1 hpush)
  go_ret2
  exact⟨A1,c1,rfl,by rw[Ae];exact HP.out.1,HP.out.2⟩
 ·clear h4 hl
  go_enter Tryz.func234,Tryz.ntmps234
  go_wp2_with fail
  refine nX.out.mono ?_
  rintro e w2 ⟨A2,c2,rfl,hr,hk⟩
  have HR:=ah hr;have HK:=ah hk;clear hr hk
  go_wp2_with (at_builtin;refine aN AU (.tmp 35) (.tmp 39) rfl rfl (Value.slice A2 l.length c2) rfl (aC HR.out.1 (F:=aj) (by(repeat'(first|(with_reducible first|exact ak|apply au|apply ay|apply aA|apply aB)|(right;simp;done)))) (fun _ _ x=>x)) 1 rfl (Src.dn (t:=53) (size:=3) (m:=1) (cs:=#[.int .i64 id,.int .u64 at',.int .i64 8]) (by(repeat (with_reducible first|exact Has.bT _ _ _ (by simp)|apply Has.drew|apply Has.drewN|apply Has.alloc|(apply Has.past<;>(try omega))))) rfl) (by simp[Value.oneCell']) gq.out (by omega) ?_;intro A1 c1 w9 ho1 hg1 ha1;have hpush:=aF.pushed HR.out (by(repeat'(first|(with_reducible first|exact ak|apply au|apply ay|apply aA|apply aB)|(exact HK.out)|(right;simp;done)))) ho1 hg1 ha1;have HP:=ah hpush;clear ho1 hg1 ha1 hpush)
  go_ret2
  exact⟨A1,c1,rfl,by rw[Ae];exact HP.out.1,HP.out.2⟩
def jm(f:Int)(l:List Int):Int:=l.foldl (fun a b=>min a b) f
theorem QS{f:Int}{l:List Int}{i:Nat}{x:Int}(h:l[i]? =some x):jm f (l.take (i+1))=min (jm f (l.take i)) x:=by
 obtain⟨hi,he⟩:=List.getElem?_eq_some_iff.1 h
 unfold jm
 rw[List.take_succ_eq_append_getElem hi,he,List.foldl_append]
 rfl
theorem Eg{f:Int}{l:List Int}(hf:0<=f/\f<=aT)(h:∀x∈l,0<=x/\x<=aT):0<=jm f l/\jm f l<=aT:=by
 induction l generalizing f with
 |nil=>exact hf
 |cons a l ih=>
  have ha:=h a (List.mem_cons_self ..)
  exact ih (f:=min f a) (by omega) fun x hx=>h x (List.mem_cons_of_mem _ hx)
theorem Uk{w:World}{A:Option Addr}{m:Nat}{l:List Int}(h:Src w 1 A m (l.map (Value.int .u64)))(hm:0<m)(i:Nat)(x:Int)(hx:l[i]? =some x):
  ∃ad,A=some ad/\ad.block<w.heap.size/\w.cell? (ad.add i)=some (.int .u64 x):=by
 obtain⟨ad,rfl,had,hcell⟩:=h.2 hm
 exact⟨ad,rfl,had,hcell i _ (by rw[List.getElem?_map,hx];rfl)⟩
theorem acG(a b M:Int)(h:min a b=M)(W:World)(ts:Array TypeId)(t:TypeId):(Builtin.min_ ts t #[.int .u64 a,.int .u64 b]).run Tryz.prog W=.ok (.int .u64 M) W:=by
 rw[run_min_int2]
 split
 ·rw[show M=b by omega]
 ·rw[show M=a by omega]
theorem KI(w:World)(f:Int)(A:Option Addr)(c:Nat)(l:List Int)(hl:Src w 1 A l.length (l.map (Value.int .u64)))(hlen:l.length<=1000000):
  Calls Tryz.prog 187 #[.int .u64 f,.slice A l.length c] w fun e w'=>e=.returned (.int .u64 (jm f l))/\w=w':=by
 have HL:=ah hl;clear hl
 go_enter Tryz.func187,Tryz.ntmps187
 go_wp2_with fail
 go_loop [0,9] (fun v0 v9=>∃i:Nat,i<=l.length/\v9=.int .i64 i/\v0=.int .u64 (jm f (l.take i))) (fun _ v9=>l.length-(intOf v9).toNat)
 case atStart=>exact⟨0,Nat.zero_le _,rfl,rfl⟩
 case round=>
  obtain⟨i,hi,rfl,rfl⟩:=hrel
  by_cases hil:i<l.length
  ·obtain⟨x,hx⟩:∃x,l[i]? =some x:=⟨_,List.getElem?_eq_getElem hil⟩
   obtain⟨ad,rfl,hl1,x0⟩:=Uk HL.out (by omega) i x hx
   have hs:=QS (f:=f) hx
   obtain⟨a,ha⟩:∃a,jm f (l.take i)=a:=⟨_,rfl⟩
   obtain⟨M,hM⟩:∃M,min a x=M:=⟨_,rfl⟩
   rw[ha,hM]at hs
   rw[ha]
   have hmin:=fun W ts t=>acG a x M hM W ts t
   have HS:=ah hs;clear hs ha hM hx
   go_wp2
   go_round
   case rel=>exact⟨i+1,by omega,by go_num,by rw[HS.out]⟩
   case measure=>simp[intOf];omega
  ·obtain rfl:i=l.length:=by omega
   rw[List.take_length]
   go_wp2
   go_ret
   exact⟨rfl,rfl⟩
end dM
namespace dM
open aO Vn Mst lV
theorem aaD(ad:Addr)(n c:Nat)(W:World):(Instr.slice 42 (.slice (some ad) (n+1) c) (some (.int .i64 1)) none none).run Tryz.prog W=.ok (.slice (if c=1 then some ad else some (ad.add 1)) n (c-1)) W:=by
 rw[run_slice_l (P:=Tryz.prog) (w:=W) 42 (some ad) (n+1) c (by kernel_rfl) .i64 1 (by omega) (by omega)]
 have hs:(sizeOf (Tryz.prog.elem 42)).run Tryz.prog W=.ok 1 W:=by kernel_rfl
 rw[hs]
 simp only[Result.andThen,sliced]
 by_cases hc:c=1
 ·subst hc;simp
 ·simp[hc]
theorem aaE(w:World)(A:Option Addr)(c:Nat)(m:Int)(r:List Int)(hl:Src w 1 A (r.length+1) ((m::r).map (Value.int .u64)))(hlc:r.length+1<=c)(hlen:r.length<=1000000):
  Calls Tryz.prog 186 #[.slice A (r.length+1) c] w fun e w'=>e=.returned (.tuple #[.int .u64 (jm m r),.bool true])/\Kept aj w w':=by
 obtain⟨ad,rfl,had,hcell⟩:=hl.2 (by omega)
 have x0:w.cell? ad=some (.int .u64 m):=by simpa [Addr.add]using hcell 0 (.int .u64 m) rfl
 have hd:=Src.drop hl (k:=1) (by omega) hlc
 have hd2:Src w 1 (if c=1 then some ad else some (ad.add 1)) r.length (r.map (Value.int .u64)):=by simpa using hd
 obtain⟨A2,hA2⟩:∃A2,(if c=1 then some ad else some (ad.add 1))=A2:=⟨_,rfl⟩
 have hsl:=fun W=>aaD ad r.length c W
 rw[hA2]at hd2 hsl
 have Xp:=fun W (hW:Kept aj w W)=>KI W m A2 (c-1) r (hd2.kept hW (fun _ _ z=>z)) hlen
 have jk:=ah Xp
 obtain⟨n,hn⟩:∃n,r.length=n:=⟨_,rfl⟩
 rw[hn]at hsl jk hlc hlen⊢
 have z0:((n:Int)+1==0)=false:=by simpa using(by omega:(n:Int)+1≠0)
 have z1:(((n+1:Nat):Int)==0)=false:=by simpa using(by omega:(n:Int)+1≠0)
 clear Xp hd hd2 hl hcell hA2 hn
 go_enter Tryz.func186,Tryz.ntmps186
 go_wp2_with fail
 go_quiet ((go_at_call 187;exact Calls.quiet_of_same ((jk.out _ (by(repeat'(first|(with_reducible first|exact ak|apply au|apply ay|apply aA|apply aB)|(right;simp;done))))).mono fun e w' h=>⟨h.1,h.2.symm⟩)))
 go_wp2
 go_ret2
 exact⟨rfl,by(repeat'(first|(with_reducible first|exact ak|apply au|apply ay|apply aA|apply aB)|(right;simp;done)))⟩
theorem aaF(w:World)(A:Option Addr)(c:Nat):
  Calls Tryz.prog 186 #[.slice A 0 c] w fun e w'=>e=.returned (.tuple #[.int .u64 0,.bool false])/\w=w':=by
 go_enter Tryz.func186,Tryz.ntmps186
 go_wp2
 go_ret2
 exact⟨rfl,rfl⟩
def BU(old:Int)(marks:List Int)(pins:List aY):Int:=match marks with
 |[]=>old
 |m::r=>max old (jm (jm m r-min (jm m r) 2) (pins.map fun p=>p.at'))
theorem Ss:Elem Tryz.prog 42 23 1 8:=⟨Tryz.underlying42,⟨_,_,rfl,rfl,rfl,rfl,rfl⟩,by decide⟩
theorem adl(w:World)(old:Int)(A B:Option Addr)(c n d:Nat):
  Calls Tryz.prog 107 #[.int .u64 old,.slice A 0 c,.slice B n d] w fun e w'=>e=.returned (.int .u64 old)/\w=w':=by
 go_enter Tryz.func107,Tryz.ntmps107
 go_wp2_with fail
 refine(aaF _ _ _).mono ?_
 rintro e w2 ⟨rfl,rfl⟩
 go_wp2
 go_ret
 exact⟨rfl,rfl⟩
theorem adn(w:World)(old:Int)(A B:Option Addr)(c d:Nat)(m:Int)(r:List Int)(l:List aY)(hm:Src w 1 A (r.length+1) ((m::r).map (Value.int .u64)))(hlc:r.length+1<=c)(hlen:r.length<=1000000)(hl:Src w 3 B l.length (aS l))(hll:l.length<=1000000)
  (hold:0<=old/\old<=aT) (hmr:∀x∈m::r,0<=x/\x<=aT):
  Calls Tryz.prog 107 #[.int .u64 old,.slice A (r.length+1) c,.slice B l.length d] w fun e w'=>e=.returned (.int .u64 (BU old (m::r) l))/\Kept aj w w':=by
 have hmin:=aaE w A c m r hm hlc hlen
 have uD:=Eg (f:=m) (l:=r) (hmr m (List.mem_cons_self ..)) (fun x hx=>hmr x (List.mem_cons_of_mem _ hx))
 have hH:BU old (m::r) l=max old (jm (jm m r-min (jm m r) 2) (l.map fun p=>p.at')):=rfl
 rw[hH]
 obtain⟨M,hM⟩:∃M,jm m r=M:=⟨_,rfl⟩
 obtain⟨K,hK⟩:∃K,min M 2=K:=⟨_,rfl⟩
 obtain⟨D,hD⟩:∃D,M-K=D:=⟨_,rfl⟩
 obtain⟨L,hL⟩:∃L,jm D (l.map fun p=>p.at')=L:=⟨_,rfl⟩
 obtain⟨X,hX⟩:∃X,max old L=X:=⟨_,rfl⟩
 rw[hM]at hmin uD⊢
 rw[hK,hD,hL,hX]
 have KJ:0<=K/\K<=M:=by omega
 have hsub:IntKind.u64.wrap (M-K)=D:=by
  rw[<-hD]
  unfold aT at uD
  exact IntWalk.u64_in _ (by omega)
 have aey:=ah hmin;have HL:=ah hl;have lM:=ah hL;have aaG:=ah hsub
 have Ul:=fun W ts t=>acG M 2 K hK W ts t
 have Um:=fun W ts t=>TL old L X hX W ts t
 have HMF:=ah Ul;have HXF:=ah Um
 clear hmin hl hL hX hK hD hM hH hsub Ul Um hm hmr uD hold KJ
 obtain⟨n,hn⟩:∃n,r.length=n:=⟨_,rfl⟩
 rw[hn]at aey⊢
 clear hn hlc hlen
 go_enter Tryz.func107,Tryz.ntmps107
 go_wp2_with fail
 refine aey.out.mono ?_
 rintro e w2 ⟨rfl,hk2⟩
 have aW:=ah hk2;clear hk2
 go_wp2_with fail
 go_loopw [9,22] (fun v9 v22 wr=>∃(i:Nat) (C:Option Addr) (c':Nat),i<=l.length/\v22=.int .i64 i/\v9=.slice C (l.take i).length c'/\aF 23 1 w.heap.size wr C (l.take i).length c' ((l.take i).map fun p=>Value.int .u64 p.at')/\Kept aj w wr) (fun _ v22 _=>l.length-(intOf v22).toNat)
 case atStart=>exact⟨0,none,0,Nat.zero_le _,rfl,rfl,aF.nil _ _ _ _,aW.out⟩
 case round=>
  obtain⟨i,C,c',hi,rfl,rfl,hr,hk⟩:=hrel
  have HR:=ah hr;have HK:=ah hk;clear hr hk
  by_cases hil:i<l.length
  ·obtain⟨p,hp⟩:∃p,l[i]? =some p:=⟨_,List.getElem?_eq_getElem hil⟩
   obtain⟨ad,rfl,hl1,x0,x1,x2⟩:=jw (HL.out.kept HK.out (fun _ _ x=>x)) (by omega) i p hp
   have hts:l.take (i+1)=l.take i++[p]:=aO.take_snoc hp
   have hb:(l.take i).length<=1000000:=by rw[List.length_take];omega
   obtain⟨T,hT⟩:∃T,l.take i=T:=⟨_,rfl⟩
   rw[hT]at hts HR hb⊢
   have Xq:=ah hts
   have gq:Hid (T.length+1<=maxLen):=ah (by unfold maxLen;omega)
   have iO:Hid ((T.length+1)*8<=140737488355328):=ah (by omega)
   clear hp hts hT hb
   go_wp2_with (at_builtin;refine aN Ss (.tmp 26) (.tmp 29) rfl rfl (Value.slice C T.length c') rfl (aC HR.out.1 (F:=aj) (by(repeat'(first|(with_reducible first|exact ak|apply au|apply ay|apply aA|apply aB)|(right;simp;done)))) (fun _ _ x=>x)) 1 rfl (Src.dn (t:=23) (size:=1) (m:=1) (cs:=#[.int .u64 p.at']) (by(repeat (with_reducible first|exact Has.bT _ _ _ (by simp)|apply Has.drew|apply Has.drewN|apply Has.alloc|(apply Has.past<;>(try omega))))) rfl) (by simp[Value.oneCell']) gq.out iO.out ?_;intro A1 c1 w9 ho1 hg1 ha1;have hpush:=aF.pushed HR.out (by(repeat'(first|(with_reducible first|exact ak|apply au|apply ay|apply aA|apply aB)|(exact HK.out)|(right;simp;done)))) ho1 hg1 ha1;have HP:=ah hpush;clear ho1 hg1 ha1 hpush)
   go_roundw
   case rel=>exact⟨i+1,A1,c1,by omega,by go_num,by rw[Xq.out,List.length_append];rfl,by rw[Xq.out,List.length_append,List.map_append];exact HP.out.1,HP.out.2⟩
   case measure=>simp[intOf];omega
  ·obtain rfl:i=l.length:=by omega
   rw[List.take_length]at HR⊢
   have hlm:(l.map fun p=>p.at').length=l.length:=List.length_map _
   have hsrc:Src wr 1 C (l.map fun p=>p.at').length ((l.map fun p=>p.at').map (Value.int .u64)):=by
    rw[hlm,List.map_map]
    exact Src.bC HR.out.1
   have hcall:=KI wr D C c' (l.map fun p=>p.at') hsrc (by rw[hlm];omega)
   rw[lM.out,hlm]at hcall
   have HC:=ah hcall
   clear hsrc hcall hlm
   have Ul:=HMF.out
   have Um:=HXF.out
   have hsub:=aaG.out
   go_wp2_with fail
   refine HC.out.mono ?_
   rintro e w5 ⟨rfl,rfl⟩
   go_wp2
   go_ret
   exact⟨rfl,HK.out⟩
def Sv(w:World)(l:List Mem)(e:Ending)(w':World):Prop:=∃A c,e=.returned (.slice A l.length c)/\aF 3 1 w.heap.size w' A l.length c (ints (ids l))/\Kept aj w w'
theorem ado(w:World)(ep fl:Int)(A:Option Addr)(c:Nat)(l:List Mem)(hl:Src w 2 A l.length (aP l))(hlen:l.length<=1000):
  Calls Tryz.prog 26 #[lq ep A l.length c fl] w (Sv w l):=by
 have HL:=ah hl;clear hl
 go_enter Tryz.func26,Tryz.ntmps26
 go_wp2_with fail
 go_loopw [3,9] (fun v3 v9 wr=>∃(i:Nat) (C:Option Addr) (c':Nat),i<=l.length/\v9=.int .i64 i/\v3=.slice C (l.take i).length c'/\aF 3 1 w.heap.size wr C (l.take i).length c' (ints ((l.take i).map (·.1)))/\Kept aj w wr) (fun _ v9 _=>l.length-(intOf v9).toNat)
 case atStart=>exact⟨0,none,0,Nat.zero_le _,rfl,rfl,aF.nil _ _ _ _,by(repeat'(first|(with_reducible first|exact ak|apply au|apply ay|apply aA|apply aB)|(right;simp;done)))⟩
 case round=>
  obtain⟨i,C,c',hi,rfl,rfl,hr,hk⟩:=hrel
  have HR:=ah hr;have HK:=ah hk;clear hr hk
  by_cases hil:i<l.length
  ·obtain⟨p,hp⟩:∃p,l[i]? =some p:=⟨_,List.getElem?_eq_getElem hil⟩
   obtain⟨ad,rfl,hl1,x0,x1⟩:=iH (HL.out.kept HK.out (fun _ _ x=>x)) (by omega) i p hp
   have hts:l.take (i+1)=l.take i++[p]:=aO.take_snoc hp
   have hb:(l.take i).length<=1000:=by rw[List.length_take];omega
   obtain⟨T,hT⟩:∃T,l.take i=T:=⟨_,rfl⟩
   rw[hT]at hts HR hb⊢
   have Xq:=ah hts
   have gq:Hid (T.length+1<=maxLen):=ah (by unfold maxLen;omega)
   have iO:Hid ((T.length+1)*8<=140737488355328):=ah (by omega)
   clear hp hts hT hb
   go_wp2_with (at_builtin;refine aN aO.jQ (.tmp 13) (.tmp 16) rfl rfl (Value.slice C T.length c') rfl (aC HR.out.1 (F:=aj) (by(repeat'(first|(with_reducible first|exact ak|apply au|apply ay|apply aA|apply aB)|(right;simp;done)))) (fun _ _ x=>x)) 1 rfl (Src.dn (t:=3) (size:=1) (m:=1) (cs:=#[.int .i64 p.1]) (by(repeat (with_reducible first|exact Has.bT _ _ _ (by simp)|apply Has.drew|apply Has.drewN|apply Has.alloc|(apply Has.past<;>(try omega))))) rfl) (by simp[Value.oneCell']) gq.out iO.out ?_;intro A1 c1 w9 ho1 hg1 ha1;have hpush:=aF.pushed HR.out (by(repeat'(first|(with_reducible first|exact ak|apply au|apply ay|apply aA|apply aB)|(exact HK.out)|(right;simp;done)))) ho1 hg1 ha1;have HP:=ah hpush;clear ho1 hg1 ha1 hpush)
   go_roundw
   case rel=>exact⟨i+1,A1,c1,by omega,by go_num,by rw[Xq.out,List.length_append];rfl,by rw[Xq.out,List.length_append,List.map_append];simpa [ints]using HP.out.1,HP.out.2⟩
   case measure=>simp[intOf];omega
  ·obtain rfl:i=l.length:=by omega
   rw[List.take_length]at HR⊢
   have hcall:=KG (w:=wr) (B:=0) (A:=C) (c:=c') (ss:=l.map (·.1)) (n:=l.length) (by simp) HR.out.1 (by simp;omega)
   have HC:=ah hcall;clear hcall
   go_wp2_with fail
   refine HC.out.mono ?_
   rintro e w5 ⟨rfl,ho,hk5⟩
   have hk:=HK.out.trans hk5 (fun k hk=> .inr (HR.out.2 k hk))
   have HO:=ah ho;have HKK:=ah hk;clear ho hk hk5
   go_wp2
   go_ret
   exact⟨C,c',rfl,⟨HO.out,HR.out.2⟩,HKK.out⟩
end dM
end Go.Proofs.YtfjdpbbgfjhnlaaGreat
namespace Go.Proofs.YtfjdpbbgfjhnlaaGreat
open Go.RowKit Go.Maps
set_option maxRecDepth 100000
namespace IM
open aO
def eF(q:IntKind)(e:TypeId)(w:World)(b n:Nat)(f:Int->Option Int):Prop:=
 ∃D:DataW Unit,w.ownsMap Tryz.prog 3 (plainElem Tryz.prog e) b n D/\∀k,I64 k->has D (.int .i64 k)=(f k).isSome/\D.atKey (.int .i64 k) (.lit (.int q 0))=.lit (.int q ((f k).getD 0))
def uG(f:Int->Option Int)(k:Int)(v:Option Int):Int->Option Int:=fun x=>if x=k then v else f x
section
variable{q:IntKind}{e t:TypeId}{w w':World}{b n:Nat}{f:Int->Option Int}{k:Int}
theorem eF.lt(h:eF q e w b n f):b<w.heap.size:=by
 obtain⟨D,h,_⟩:=h
 exact h.lt
theorem eF.kept{F:Nat->Prop}(h:eF q e w b n f)(hk:Kept F w w')(hf:¬F b):eF q e w' b n f:=by
 obtain⟨D,ho,hD⟩:=h
 have hlt:=ho.lt
 obtain⟨es,clock,hb,hF,hs,e⟩:=ho
 exact⟨D,⟨es,clock,(hk.block b hlt hf).trans hb,hF,hs,e⟩,hD⟩
theorem eF.made(q:IntKind)(e:TypeId)(w:World):eF q e (w.alloc (.map #[] 0)) w.heap.size 0 (fun _=>none):=⟨_,World.ownsMap_made w _ _ _,fun k hk=>⟨rfl,rfl⟩⟩
theorem eF.mono(h:eF q e w b n f){m:Nat}(hm:n<=m):eF q e w b m f:=by
 obtain⟨D,ho,hD⟩:=h
 exact⟨D,ho.mono hm,hD⟩
theorem eF.map(h:eF q e w b n f):∃es c,w.heap[b]? =some (.map es c):=by
 obtain⟨D,⟨es,c,hb,_⟩,_⟩:=h
 exact⟨es,c,hb⟩
theorem wf0(q:IntKind):(Lit.int q 0).wf=true:=by cases q<;>decide
theorem eF.look(h:eF q e w b n f)(ht:Tryz.prog.underlying t=some (.map 3 e))(he:Tryz.prog.underlying e=some (.int q))(hz:(zeroValue e).run Tryz.prog w=.ok (.int q 0) w)(hk:I64 k):
  (Instr.lookup t (.map (some b)) (.int .i64 k) false).run Tryz.prog w=.ok (.int q ((f k).getD 0)) w:=by
 obtain⟨D,ho,hD⟩:=h
 obtain⟨c,hrun,hat,_⟩:=ho.lookup_int jL ht he hz (qB hk)
 rw[(hD k hk).2]at hat
 injection hat with hat
 injection hat with _ hat
 rw[hrun,hat]
theorem eF.look_ok(h:eF q e w b n f)(ht:Tryz.prog.underlying t=some (.map 3 e))(he:Tryz.prog.underlying e=some (.int q))(hz:(zeroValue e).run Tryz.prog w=.ok (.int q 0) w)(hk:I64 k):
  (Instr.lookup t (.map (some b)) (.int .i64 k) true).run Tryz.prog w=.ok (.tuple #[.int q ((f k).getD 0),.bool (f k).isSome]) w:=by
 obtain⟨D,ho,hD⟩:=h
 obtain⟨v,ps,hrun,hv⟩:=ho.look_ok jL ht hz (plainElem_int he (wf0 q)) (qB hk)
 rw[(hD k hk).2]at hv
 obtain⟨c,rfl,hc,_⟩:=plainElem_int_inv he hv
 simp only[Prod.mk.injEq]at hc
 obtain⟨hc,_⟩:=hc
 injection hc with hc
 injection hc with _ hc
 rw[hrun,hc,(hD k hk).1]
theorem eF.store(h:eF q e w b n f)(ht:Tryz.prog.underlying t=some (.map 3 e))(he:Tryz.prog.underlying e=some (.int q))(hn:n<maxLen)(hk:I64 k){x:Int}(hx:(Lit.int q x).wf=true):
  ∃w',(Instr.mapUpdate t (.map (some b)) (.int .i64 k) (.int q x)).run Tryz.prog w=.ok () w'/\eF q e w' b (n+1) (uG f k (some x))/\Kept (fun i=>i=b) w w':=by
 obtain⟨D,ho,hD⟩:=h
 obtain⟨w',hrun,ho',hg⟩:=ho.update jL ht hn (qB hk) (plainElem_int he hx)
 refine⟨w',hrun,⟨_,ho',?_⟩,(Kept.refl _ _).grownBy hg fun i hi=>by injection hi with hi;exact .inl hi.symm⟩
 intro y hy
 have hm:IsMap D:=ho.isMap
 have hl:WideAt.IsKeyLit (.int .i64 k):=by trivial
 by_cases e1:y=k
 ·subst e1
  rw[has_put_same hm hl,atKey_put_same hm hl]
  simp[uG]
 ·have hne:(Lit.int .i64 y)≠ .int .i64 k:=fun h=>e1 (by injection h)
  rw[has_put_other hne,atKey_put_other hne]
  have:=hD y hy
  simpa [uG,e1]using this
theorem eF.drop(h:eF q e w b n f)(ht:Tryz.prog.underlying t=some (.map 3 e))(hk:I64 k)(ty:TypeId):
  ∃w',(Builtin.delete_ #[t,3] ty #[.map (some b),.int .i64 k]).run Tryz.prog w=.ok (.tuple #[]) w'/\eF q e w' b n (uG f k none)/\Kept (fun i=>i=b) w w':=by
 obtain⟨D,ho,hD⟩:=h
 obtain⟨w',hrun,ho',htu⟩:=ho.drop jL ht (qB hk) ty
 refine⟨w',hrun,⟨_,ho',?_⟩,(Kept.refl _ _).grownBy htu.grown fun i hi=>by injection hi with hi;exact .inl hi.symm⟩
 intro y hy
 by_cases e1:y=k
 ·subst e1
  rw[has_del_same,atKey_del_same]
  simp[uG]
 ·have hne:(Lit.int .i64 y)≠ .int .i64 k:=fun h=>e1 (by injection h)
  rw[has_del_other hne,atKey_del_other hne]
  have:=hD y hy
  simpa [uG,e1]using this
theorem xA{w:World}{b c:Nat}{es:Array MapEntry}{t k e:TypeId}(ht:Tryz.prog.underlying t=some (.map k e))(hb:w.heap[b]? =some (.map es c))(ty:TypeId):
  (Builtin.clear_ #[t] ty #[.map (some b)]).run Tryz.prog w=.ok (.tuple #[]) (ChangeMaps.setBlock w b (.map #[] c)):=by
 simp[Builtin.clear_,run_underlying ht,MapKept.run_getObj_map hb,MapKept.run_setObj_map _ hb,Result.andThen,ChangeMaps.setBlock]
theorem Ip{D:DataW Unit}{R:Value->Option (DataW Unit×List MemPlace)}(h:w.ownsMap Tryz.prog 3 R b n D)(ht:Tryz.prog.underlying t=some (.map 3 e))(ty:TypeId):
  ∃w',(Builtin.clear_ #[t] ty #[.map (some b)]).run Tryz.prog w=.ok (.tuple #[]) w'/\w'.ownsMap Tryz.prog 3 R b n (.map [])/\Kept (fun i=>i=b) w w':=by
 obtain⟨es,c,hb,hF,hs,rfl⟩:=h
 refine⟨_,xA ht hb ty,⟨#[],c,ChangeMaps.heap_setBlock_same hb _,⟨by simp,MapKept.stamped_empty c,by simp⟩,by simp,rfl⟩,⟨rfl,rfl,rfl,by simp[ChangeMaps.setBlock],fun i _ hi=>ChangeMaps.heap_setBlock_other hb _ (fun e=>hi e)⟩⟩
theorem eF.clear(h:eF q e w b n f)(ht:Tryz.prog.underlying t=some (.map 3 e))(ty:TypeId):
  ∃w',(Builtin.clear_ #[t] ty #[.map (some b)]).run Tryz.prog w=.ok (.tuple #[]) w'/\eF q e w' b n (fun _=>none)/\Kept (fun i=>i=b) w w':=by
 obtain⟨D,ho,hD⟩:=h
 obtain⟨w',hrun,ho',hk⟩:=Ip ho ht ty
 exact⟨w',hrun,⟨_,ho',fun k hk=>⟨rfl,rfl⟩⟩,hk⟩
end
section
variable{w w':World}{b n:Nat}{s:Int->Bool}{k:Int}
theorem bM.mono(h:bM w b n s){m:Nat}(hm:n<=m):bM w b m s:=by
 obtain⟨D,ho,hD⟩:=h
 exact⟨D,ho.mono hm,hD⟩
theorem bM.drop(h:bM w b n s)(hk:I64 k)(ty:TypeId):
  ∃w',(Builtin.delete_ #[88,3] ty #[.map (some b),.int .i64 k]).run Tryz.prog w=.ok (.tuple #[]) w'/\bM w' b n (fun y=> !decide (y=k)&&s y)/\Kept (fun i=>i=b) w w':=by
 obtain⟨D,ho,hD⟩:=h
 obtain⟨w',hrun,ho',htu⟩:=ho.drop jL Tryz.underlying88 (qB hk) ty
 refine⟨w',hrun,⟨_,ho',?_⟩,(Kept.refl _ _).grownBy htu.grown fun i hi=>by injection hi with hi;exact .inl hi.symm⟩
 intro y hy
 by_cases e1:y=k
 ·subst e1
  rw[atKey_del_same]
  simp
 ·have hne:(Lit.int .i64 y)≠ .int .i64 k:=fun h=>e1 (by injection h)
  rw[atKey_del_other hne,hD y hy]
  simp[e1]
theorem bM.clear(h:bM w b n s)(ty:TypeId):
  ∃w',(Builtin.clear_ #[88] ty #[.map (some b)]).run Tryz.prog w=.ok (.tuple #[]) w'/\bM w' b n (fun _=>false)/\Kept (fun i=>i=b) w w':=by
 obtain⟨D,ho,hD⟩:=h
 obtain⟨w',hrun,ho',hk⟩:=Ip ho Tryz.underlying88 ty
 exact⟨w',hrun,⟨_,ho',fun k hk=>rfl⟩,hk⟩
theorem bM.map(h:bM w b n s):∃es c,w.heap[b]? =some (.map es c):=by
 obtain⟨D,⟨es,c,hb,_⟩,_⟩:=h
 exact⟨es,c,hb⟩
end
end IM
end Go.Proofs.YtfjdpbbgfjhnlaaGreat

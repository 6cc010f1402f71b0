/- Part 12 of what the proof needs. -/
import Derived.Test.YtfjdpbbgfjhnlaaGreatMK10
import Derived.Lib.AppendZerosOnto
set_option linter.unusedSimpArgs false
set_option linter.unusedVariables false
set_option maxHeartbeats 32000000
set_option maxRecDepth 100000
namespace Go.Proofs.YtfjdpbbgfjhnlaaGreat
open Go.RowKit
set_option maxRecDepth 100000
namespace Mst
open aO Vn Go.Sort
def eH(w:World)(b:Nat)(F:Nat->Prop)(s:bQ):Prop:=∃mA mc lA lc pA pc,(∀k,F k↔(k=b\/RowOf (.slice mA s.ms.length mc) k\/RowOf (.slice lA s.lg.length lc) k\/RowOf (.slice pA s.pins.length pc) k))/\
 Has w b 124 (dG s mA mc lA lc pA pc true)/\w.ownsRow 0 65 2 (.slice mA s.ms.length mc) s.ms.length (aP s.ms)/\w.ownsRow 0 3 1 (.slice lA s.lg.length lc) s.lg.length (ints s.lg)/\w.ownsRow 0 53 3 (.slice pA s.pins.length pc) s.pins.length (aS s.pins)
theorem eH.kept{w w':World}{b:Nat}{F G:Nat->Prop}{s:bQ}(h:eH w b F s)(hk:Kept G w w')(hs:Sep F G):eH w' b F s:=by
 obtain⟨mA,mc,lA,lc,pA,pc,hF,hb,hm,hl,hp⟩:=h
 exact⟨mA,mc,lA,lc,pA,pc,hF,hb.kept hk (hs b ((hF b).2 (.inl rfl))),aC hm hk (fun g hg=>hs g ((hF g).2 (.inr (.inl hg)))),aC hl hk (fun g hg=>hs g ((hF g).2 (.inr (.inr (.inl hg))))),aC hp hk (fun g hg=>hs g ((hF g).2 (.inr (.inr (.inr hg)))))⟩
theorem eH.still{w w':World}{b:Nat}{F:Nat->Prop}{s:bQ}(h:eH w b F s)(hk:Kept aj w w'):eH w' b F s:=h.kept hk (fun _ _ z=>z)
theorem eH.lt{w:World}{b:Nat}{F:Nat->Prop}{s:bQ}(h:eH w b F s):∀k,F k->k<w.heap.size:=by
 obtain⟨mA,mc,lA,lc,pA,pc,hF,hb,hm,hl,hp⟩:=h
 intro k hk
 rcases(hF k).1 hk with rfl|h|h|h
 ·exact hb.lt
 ·exact lH hm h
 ·exact lH hl h
 ·exact lH hp h
theorem jC{w:World}{base k size n:Nat}{e:TypeId}{v:Value}{xs:List Value}(h:w.ownsRow base e size v n xs)(hk:RowOf v k):∃cs,Has w k e cs:=by
 rcases h.2 with⟨rfl,_⟩|⟨g,cap,cur,rfl,_,hh,_⟩
 ·simp[RowOf,Value.ownBlock]at hk
 ·obtain rfl:g=k:=by simpa [RowOf,Value.ownBlock]using hk
  exact⟨cur,hh⟩
structure nZ(s:bQ):Prop where
 m:s.ms.length<=1000
 l:s.lg.length<=1000
 p:s.pins.length<=1000
def toldOf(s:bQ)(c:Int):jK:=if c=0 then s.t0 else if c=1 then s.t1 else s.t2
def kF(s:bQ)(a:jK):bQ:=if a.cl=0 then {s with t0:=a}else if a.cl=1 then {s with t1:=a}else{s with t2:=a}
def bu(s:bQ)(x:aG):Int:=
 if aQ x≠0 then aQ x else
 if x.k=1 then lW s x else
 if x.k=5 then (if bY s.ms x.n=true then 0 else 7)else
 if x.k=4 then (if x.at'<s.hz then 18 else 0)else
 if x.k=6 then pJ s x.pin else
 if x.k=7 then 0 else
 if x.k=8 then (if x.said.req<(toldOf s x.said.cl).req then 18 else 0)else 11
def aZ(s:bQ)(x:aG):bQ:=
 if bu s x≠0 then s else
 if x.k=1 then {s with ep:=x.ep,ms:=x.ms,fl:=x.fl,lg:=x.lg}else
 if x.k=5 then {s with lg:=kE s.lg x.n}else
 if x.k=4 then {s with hz:=x.at'}else
 if x.k=6 then jW s x.pin else
 if x.k=7 then {s with pins:=freed s.pins x.n,top:=max s.top x.n}else kF s x.said
def bU(w:World)(b:Nat)(F:Nat->Prop)(s:bQ)(x:aG)(e:Ending)(w':World):Prop:=
 ∃F',e=.returned (.int .i64 (bu s x))/\eH w' b F' (aZ s x)/\ji w F F'/\Kept F w w'
theorem bU.bad{w w':World}{b:Nat}{F:Nat->Prop}{s:bQ}{x:aG}(hs:eH w b F s)(h0:bu s x≠0)(hk:Kept aj w w'):bU w b F s x (.returned (.int .i64 (bu s x))) w':=by
 refine⟨F,rfl,?_,ji.refl _ _,Kept.up hk⟩
 unfold aZ
 rw[if_pos h0]
 exact hs.still hk
theorem Xe(w:World)(b:Nat)(F:Nat->Prop)(s:bQ)(x:aG)(hs:eH w b F s)(h:iI w x)(h0:aQ x≠0):
  Calls Tryz.prog 38 #[.pointer (some ⟨b,0,none⟩),fE x] w (bU w b F s x):=by
 have hE:bu s x=aQ x:=by unfold bu;rw[if_pos h0]
 have hP:∀w',Kept aj w w'->bU w b F s x (.returned (.int .i64 (aQ x))) w':=fun w' hk=>by
  have:=bU.bad hs (by rw[hE];exact h0) hk
  rw[hE]at this
  exact this
 obtain⟨mA,mc,lA,lc,pA,pc,hF,hb,hm,hl,hp⟩:=hs
 have hck:=fun W (hW:Kept aj w W)=>dZ W x (h.kept hW)
 have hnone:=fun W (hW:Kept aj w W)=>dR W b s mA mc lA lc pA pc true (hb.kept hW (fun z=>z))
 obtain⟨E,hE0⟩:∃E,aQ x=E:=⟨_,rfl⟩
 rw[hE0]at hck hP h0
 obtain⟨W0,hW0⟩:∃W0,w.alloc (.cells (aJ x).toArray 83)=W0:=⟨_,rfl⟩
 have hk0:Kept aj w W0:=by rw[<-hW0];(repeat'(first|(with_reducible first|exact ak|apply au|apply ay|apply aA|apply aB)|(right;simp;done)))
 have hn0:Has W0 w.heap.size 83 (aJ x).toArray:=by rw[<-hW0];exact Has.new _ _ _
 clear hE hE0 h hm hl hp hb hF
 obtain⟨k,n,at2,ep,wL,wM,ms,fl,lA2,wO,lg,oA,oc,⟨iY,fM,ops⟩,ts,⟨p1,p2,p3⟩,⟨s1,s2,s3,s4⟩⟩:=x
 simp only[aJ]at hP hn0 hck
 have HP:=ah hP;have lX:=ah hck;have jl:=ah hnone;have bf:=ah hk0;have dO:=ah hn0
 clear hP hck hnone hk0 hn0
 have h0':(E !=0)=true:=by simpa using h0
 go_enter Tryz.func38,Tryz.ntmps38
 go_wp2_with fail
 clear hW0
 refine(jl.out _ bf.out).mono ?_
 rintro e w2 ⟨rfl,hk⟩
 have hn2:=dO.out.kept hk (fun z=>z)
 have dL:=ah hn2
 have HK:=ah (bf.out.then hk);clear hk hn2
 go_wp2_with (refine wpList_load_row rfl 83 (.tmp 3) rfl w.heap.size rfl 83 _ (0,0) _ dL.out Tryz.underlying83 rfl (by kernel_rfl) ?_)
 refine(lX.out _ HK.out).mono ?_
 rintro e w3 ⟨rfl,hk⟩
 have bn:=ah (HK.out.then hk);clear hk HK
 go_wp2
 go_ret
 exact HP.out _ bn.out
end Mst
end Go.Proofs.YtfjdpbbgfjhnlaaGreat
namespace Go.Proofs.YtfjdpbbgfjhnlaaGreat
open Go.RowKit Go.Shelf
set_option maxRecDepth 100000
namespace aO
def Fe(w:World)(g:Nat)(lb:Array Value)(l:List Mem)(p:Mem->Bool):Prop:=
 ∀W m,Kept aj w W->m∈l->Calls Tryz.prog g (#[je m]++lb) W fun e w'=>e=.returned (.bool (p m))/\Kept aj W w'
theorem Fe.kept{w w':World}{g:Nat}{lb:Array Value}{l:List Mem}{p:Mem->Bool}(h:Fe w g lb l p)(hk:Kept aj w w'):Fe w' g lb l p:=fun W m hW hm=>h W m (hk.then hW) hm
def xx(p:Mem->Bool)(l:List Mem):Bool:=l.any p
theorem Xf(w:World)(A:Option Addr)(c:Nat)(l:List Mem)(p:Mem->Bool)(g:Nat)(lb:Array Value)(hl:Src w 2 A l.length (aP l))(hlen:l.length<=1000000)
  (eg:∀args w,(callFunc g args).run Tryz.prog w=.ok (.enter g args) w) (hp:Fe w g lb l p):
  Calls Tryz.prog 188 #[.slice A l.length c,.func (.func g) #[] lb] w fun e w'=>(∃n:Int,e=.returned (.int .i64 n)/\(0<=n↔xx p l=true))/\Kept aj w w':=by
 have HL:=ah hl;clear hl
 have HP:=ah hp;clear hp
 go_enter Tryz.func188,Tryz.ntmps188
 go_wp2_with fail
 go_loopw [8] (fun v8 wr=>∃i:Nat,i<=l.length/\v8=.int .i64 i/\Kept aj w wr/\xx p l=xx p (l.drop i)) (fun v8 _=>l.length-(intOf v8).toNat)
 case atStart=>exact⟨0,Nat.zero_le _,rfl,Kept.refl _ _,rfl⟩
 case round=>
  obtain⟨i,hi,rfl,hk,he⟩:=hrel
  have HK:=ah hk;clear hk
  have HE:=ah he;clear he
  by_cases hil:i<l.length
  ·obtain⟨m,hm⟩:∃m,l[i]? =some m:=⟨_,List.getElem?_eq_getElem hil⟩
   obtain⟨ad,hA,had,d0,d1⟩:=iH (HL.out.kept HK.out (fun _ _ x=>x)) (by omega) i m hm
   subst hA
   have hcall:=HP.out wr m HK.out (List.mem_of_getElem? hm)
   have hs:xx p (l.drop i)=(p m||xx p (l.drop (i+1))):=by unfold xx;rw[drop_cons hm,List.any_cons]
   obtain⟨b,hb⟩:∃b,p m=b:=⟨_,rfl⟩
   rw[hb]at hcall hs
   have HS:=ah hs;clear hs hm hb
   obtain⟨m1,m2⟩:=m
   unfold je at hcall
   dsimp only at d0 d1 hcall
   have HC:=ah hcall;clear hcall
   cases b
   ·go_wp2_with fail
    refine HC.out.mono ?_
    rintro e w2 ⟨rfl,hk2⟩
    have hk3:=HK.out.then hk2
    have bn:=ah hk3;clear hk3 hk2
    go_wp2
    go_roundw
    case rel=>exact⟨i+1,by omega,by go_num,bn.out,by rw[HE.out,HS.out];rfl⟩
    case measure=>simp[intOf];omega
   ·go_wp2_with fail
    refine HC.out.mono ?_
    rintro e w2 ⟨rfl,hk2⟩
    have hk3:=HK.out.then hk2
    have bn:=ah hk3;clear hk3 hk2
    go_wp2
    go_ret
    exact⟨⟨_,rfl,⟨fun _=>by rw[HE.out,HS.out];rfl,fun _=>by omega⟩⟩,bn.out⟩
  ·obtain rfl:i=l.length:=by omega
   go_wp2
   go_ret
   exact⟨⟨-1,rfl,⟨fun h=>by omega,fun h=>by rw[HE.out,List.drop_length]at h;cases h⟩⟩,HK.out⟩
theorem Ee(w:World)(A:Option Addr)(c:Nat)(l:List Mem)(p:Mem->Bool)(g:Nat)(lb:Array Value)(hl:Src w 2 A l.length (aP l))(hlen:l.length<=1000000)
  (eg:∀args w,(callFunc g args).run Tryz.prog w=.ok (.enter g args) w) (hp:Fe w g lb l p):
  Calls Tryz.prog 109 #[.slice A l.length c,.func (.func g) #[] lb] w fun e w'=>e=.returned (.bool (xx p l))/\Kept aj w w':=by
 have hi:=Xf w A c l p g lb hl hlen eg hp
 have HI:=ah hi;clear hi hl hp eg
 obtain⟨b,hb⟩:∃b,xx p l=b:=⟨_,rfl⟩
 rw[hb]at HI⊢
 clear hb
 go_enter Tryz.func109,Tryz.ntmps109
 go_wp2_with fail
 refine HI.out.mono ?_
 rintro e w2 ⟨⟨n,rfl,hn⟩,hk⟩
 have HN:=ah hn;clear hn
 go_wp2
 go_ret
 refine⟨?_,hk⟩
 have h:=HN.out
 cases b
 ·have:decide (0<=n)=false:=by rw[decide_eq_false_iff_not];intro x;have:=h.1 x;cases this
  rw[<-this];rfl
 ·have:decide (0<=n)=true:=by rw[decide_eq_true_eq];exact h.2 rfl
  rw[<-this];rfl
theorem twin_any(W:World)(B:Nat)(m x:Mem)(hB:Has W B 65 #[.int .i64 m.1,.int .i64 m.2]):
  Calls Tryz.prog 108 #[je x,.pointer (some ⟨B,0,none⟩)] W fun e w'=>e=.returned (.bool (decide (x.1=m.1)))/\Kept aj W w':=by
 have hlt:=hB.lt
 have hne:B≠W.heap.size:=by omega
 obtain⟨x1,x2⟩:=x
 obtain⟨m1,m2⟩:=m
 have c0:∀o,(W.alloc o).cell? ⟨B,0,none⟩=some (.int .i64 m1):=fun o=>(hB.alloc o).cell 0
 clear hB hlt
 unfold je
 dsimp only
 go_enter Tryz.func108,Tryz.ntmps108
 go_wp2
 go_ret
 exact⟨by by_cases h:x1=m1<;>simp[h],(Kept.refl _ _).alloc _⟩
theorem aew:∀args w,(callFunc 108 args).run Tryz.prog w=.ok (.enter 108 args) w:=enters_of Tryz.func108 (by kernel_rfl) rfl
theorem one_any(w:World)(A:Option Addr)(c:Nat)(l:List Mem)(m:Mem)(hl:Src w 2 A l.length (aP l))(hlen:l.length<=1000000):
  Calls Tryz.prog 57 #[je m,.slice A l.length c] w fun e w'=>e=.returned (.int .i64 (o7 m l))/\Kept aj w w':=by
 have hone:o7 m l=if m.1<0\/4<=m.1 then 1 else if m.2<1\/1073741824<m.2 then 5 else if xx (fun x=>decide (x.1=m.1)) l then 18 else 0:=rfl
 have hnb:=Has.new w 65 #[.int .i64 m.1,.int .i64 m.2]
 have hco:=Ee (w.alloc (.cells #[.int .i64 m.1,.int .i64 m.2] 65)) A c l (fun x=>decide (x.1=m.1)) 108 #[.pointer (some ⟨w.heap.size,0,none⟩)] (hl.kept ((Kept.refl aj w).alloc _) (fun _ _ x=>x)) hlen aew
  (fun W x hW _=>twin_any W w.heap.size m x (hnb.kept hW (fun x=>x)))
 obtain⟨b,hb⟩:∃b,xx (fun x=>decide (x.1=m.1)) l=b:=⟨_,rfl⟩
 rw[hb]at hco hone
 have qK:=ah hco;clear hco hnb hl hb
 obtain⟨r,hr⟩:∃r,o7 m l=r:=⟨_,rfl⟩
 rw[hr]at hone⊢
 clear hr
 obtain⟨m1,m2⟩:=m
 unfold je
 dsimp only at hone qK⊢
 have vM:=ah hone;clear hone
 by_cases g1:m1<0
 ·have h1:=vM.out
  rw[if_pos (.inl g1)]at h1
  subst h1
  go_enter Tryz.func57,Tryz.ntmps57
  go_wp2
  go_ret
  exact⟨rfl,(Kept.refl _ _).alloc _⟩
 by_cases g2:4<=m1
 ·have h1:=vM.out
  rw[if_pos (.inr g2)]at h1
  subst h1
  go_enter Tryz.func57,Tryz.ntmps57
  go_wp2
  go_ret
  exact⟨rfl,(Kept.refl _ _).alloc _⟩
 by_cases g3:m2<1
 ·have h1:=vM.out
  rw[if_neg (by omega),if_pos (.inl g3)]at h1
  subst h1
  go_enter Tryz.func57,Tryz.ntmps57
  go_wp2
  go_ret
  exact⟨rfl,(Kept.refl _ _).alloc _⟩
 by_cases g4:1073741824<m2
 ·have h1:=vM.out
  rw[if_neg (by omega),if_pos (.inr g4)]at h1
  subst h1
  go_enter Tryz.func57,Tryz.ntmps57
  go_wp2
  go_ret
  exact⟨rfl,(Kept.refl _ _).alloc _⟩
 have h1:=vM.out
 rw[if_neg (by omega),if_neg (by omega)]at h1
 cases b
 ·rw[if_neg (by decide)]at h1
  subst h1
  go_enter Tryz.func57,Tryz.ntmps57
  go_wp2_with fail
  refine qK.out.mono ?_
  rintro e w2 ⟨rfl,hk⟩
  go_wp2
  go_ret
  exact⟨rfl,((Kept.refl _ _).alloc _).then hk⟩
 ·rw[if_pos rfl]at h1
  subst h1
  go_enter Tryz.func57,Tryz.ntmps57
  go_wp2_with fail
  refine qK.out.mono ?_
  rintro e w2 ⟨rfl,hk⟩
  go_wp2
  go_ret
  exact⟨rfl,((Kept.refl _ _).alloc _).then hk⟩
theorem check_any(w:World)(ep fl:Int)(A:Option Addr)(c:Nat)(l:List Mem)(hl:Src w 2 A l.length (aP l))(hlen:l.length<=1000000)(hcap:l.length<=c)(hcm:c<=9223372036854775807):
  Calls Tryz.prog 22 #[lq ep A l.length c fl] w fun e w'=>e=.returned (.int .i64 (chk ep l))/\Kept aj w w':=by
 have HL:=ah hl;clear hl
 obtain⟨r,hr⟩:∃r,chk ep l=r:=⟨_,rfl⟩
 have HRR:=ah hr
 rw[hr]
 clear hr
 by_cases h1:ep<1
 ·have hr:r=5:=by rw[<-HRR.out];unfold chk;rw[if_pos (.inl h1)]
  subst hr
  go_enter Tryz.func22,Tryz.ntmps22
  go_wp2
  go_ret
  exact⟨rfl,(Kept.refl _ _).alloc _⟩
 by_cases h2:1073741824<ep
 ·have hr:r=5:=by rw[<-HRR.out];unfold chk;rw[if_pos (.inr h2)]
  subst hr
  go_enter Tryz.func22,Tryz.ntmps22
  go_wp2
  go_ret
  exact⟨rfl,(Kept.refl _ _).alloc _⟩
 by_cases h3:l.length=0
 ·have hr:r=7:=by rw[<-HRR.out];unfold chk;rw[if_neg (by omega),if_pos h3]
  subst hr
  rw[h3]
  clear h3
  go_enter Tryz.func22,Tryz.ntmps22
  go_wp2
  go_ret
  exact⟨rfl,(Kept.refl _ _).alloc _⟩
 have h3':((l.length:Int)==0)=false:=by rw[beq_eq_false_iff_ne];omega
 by_cases h4:4<l.length
 ·have hr:r=6:=by rw[<-HRR.out];unfold chk;rw[if_neg (by omega),if_neg h3,if_pos h4]
  subst hr
  have h4':(4:Int)<l.length:=by omega
  clear h3
  go_enter Tryz.func22,Tryz.ntmps22
  go_wp2
  go_ret
  exact⟨rfl,(Kept.refl _ _).alloc _⟩
 have hr:r=jP (l.take 0) (l.drop 0):=by rw[<-HRR.out];unfold chk;rw[if_neg (by omega),if_neg h3,if_neg h4];rfl
 have HR:=ah hr;clear hr
 have h4':¬(4:Int)<l.length:=by omega
 have HN:=ah (Has.new w 25 #[.int .i64 ep,.slice A l.length c,.int .u64 fl])
 clear h3 h4
 go_enter Tryz.func22,Tryz.ntmps22
 go_wp2_with fail
 go_loopw [28] (fun v28 wr=>∃i:Nat,i<=l.length/\v28=.int .i64 i/\Has wr w.heap.size 25 #[.int .i64 ep,.slice A l.length c,.int .u64 fl]/\Kept aj w wr/\r=jP (l.take i) (l.drop i)) (fun v28 _=>l.length-(intOf v28).toNat)
 case atStart=>exact⟨0,Nat.zero_le _,rfl,HN.out,(Kept.refl _ _).alloc _,HR.out⟩
 case round=>
  obtain⟨i,hi,rfl,hh,hk,he⟩:=hrel
  have hlt0:=hh.lt
  have HH:=ah hh;clear hh
  have HK:=ah hk;clear hk
  have HE:=ah he;clear he
  by_cases hil:i<l.length
  ·obtain⟨m,hm⟩:∃m,l[i]? =some m:=⟨_,List.getElem?_eq_getElem hil⟩
   obtain⟨ad,hA,had,d0,d1⟩:=iH (HL.out.kept HK.out (fun _ _ x=>x)) (by omega) i m hm
   subst hA
   obtain⟨wo,hwo⟩:∃wo:World,wo=wr:=⟨_,rfl⟩
   subst hwo
   have hic:i<=c:=by omega
   have aay:(l.take i).length=i:=by rw[List.length_take];omega
   have hone:=fun W (hW:Kept aj w W)=>one_any W (some ad) c (l.take i) m (by
    have h1:=(HL.out.kept hW (fun _ _ x=>x)).take (k:=i) (by omega)
    rw[Aa]at h1
    rw[aay]
    exact h1) (by omega)
   rw[aay]at hone
   have hm':=fun h=>DZ hm h
   have aaz:=fun h=>D3 hm h
   obtain⟨r1,hr1⟩:∃r1,o7 m (l.take i)=r1:=⟨_,rfl⟩
   rw[hr1]at hone hm' aaz
   have vM:=ah hone;clear hone hm hr1
   have gq:=ah hm';clear hm'
   have iO:=ah aaz;clear aaz
   obtain⟨m1,m2⟩:=m
   unfold je at vM
   dsimp only at d0 d1 vM
   have e0:∀o,(wo.alloc o).cell? ⟨w.heap.size,1,none⟩=some (.slice (some ad) l.length c):=fun o=>(HH.out.alloc o).cell 1
   clear aay
   go_wp2_with fail
   refine wp_region_still_tail 5 (by kernel_rfl) (by kernel_rfl) ?_
   simp only[List.take_succ_cons,List.take_zero,List.drop_succ_cons,List.drop_zero]
   change wpStill _ _ (World.drew (wo.alloc _)) _ _ _
   repeat still_step
   refine wpStill_nil ?_
   change wpList _ _ _ _ _ (World.drew (wo.alloc _))
   go_wp2_with fail
   refine(vM.out _ ((HK.out.alloc _).drew)).mono ?_
   rintro e w3 ⟨rfl,hk3⟩
   have hk4:=((HK.out.alloc _).drew).then hk3
   have hh4:=((HH.out.alloc _).drew).kept hk3 (fun x=>x)
   have dW:=ah hk4;clear hk4 hk3
   have HH4:=ah hh4;clear hh4
   by_cases hz:r1=0
   ·have hs:r=jP (l.take (i+1)) (l.drop (i+1)):=by rw[HE.out,gq.out hz]
    have HS:=ah hs;clear hs
    have hzb:(r1 !=0)=false:=by rw[hz];rfl
    have hzc:(r1==0)=true:=by rw[hz];rfl
    clear hz
    go_wp2
    go_roundw
    case rel=>exact⟨i+1,by omega,by go_num,HH4.out,dW.out,HS.out⟩
    case measure=>simp[intOf];omega
   ·have hs:r=r1:=by rw[HE.out,iO.out hz]
    subst hs
    have hzb:(r !=0)=true:=by simpa using hz
    have hzc:(r==0)=false:=by simpa using hz
    clear hz
    go_wp2
    go_ret
    exact⟨rfl,dW.out⟩
  ·obtain rfl:i=l.length:=by omega
   have hr:r=0:=by rw[HE.out,List.drop_length];rfl
   subst hr
   go_wp2
   go_ret
   exact⟨rfl,HK.out⟩
end aO
end Go.Proofs.YtfjdpbbgfjhnlaaGreat
namespace Go.Proofs.YtfjdpbbgfjhnlaaGreat
open Go.RowKit Go.Shelf Go.Maps
set_option maxRecDepth 100000
namespace aO
theorem adg(w:World)(A B:Option Addr)(c d n n':Nat)(l l':List Mem)(hn:n=l.length)(hn':n'=l'.length)(hl:Src w 2 A l.length (aP l))(hl':Src w 2 B l'.length (aP l'))(hlen:l.length<=1000000)(hlen':l'.length<=1000000):
  Calls Tryz.prog 184 #[.slice A n c,.slice B n' d] w fun e w'=>e=.returned (.bool (rV l l'))/\Kept aj w w':=by
 subst hn
 subst hn'
 have HL:=ah hl;clear hl
 have Ws:=ah hl';clear hl'
 by_cases h3:l.length=l'.length
 rotate_left
 ·have b1:((l.length:Int)==(l'.length:Int))=false:=by rw[beq_eq_false_iff_ne];omega
  have b2:((l.length:Int) !=(l'.length:Int))=true:=by rw[bne_iff_ne];omega
  rw[RX h3]
  clear h3
  go_enter Tryz.func184,Tryz.ntmps184
  go_wp2
  go_ret
  exact⟨rfl,Kept.refl _ _⟩
 rw[<-h3]at Ws⊢
 have H3:=ah h3;clear h3
 go_enter Tryz.func184,Tryz.ntmps184
 go_wp2_with fail
 go_loopw [13] (fun v13 wr=>∃i:Nat,i<=l.length/\v13=.int .i64 i/\Kept aj w wr/\rV l l'=rV (l.drop i) (l'.drop i)) (fun v13 _=>l.length-(intOf v13).toNat)
 case atStart=>exact⟨0,Nat.zero_le _,rfl,Kept.refl _ _,rfl⟩
 case round=>
  obtain⟨i,hi,rfl,hk,he⟩:=hrel
  have HK:=ah hk;clear hk
  have HE:=ah he;clear he
  by_cases hil:i<l.length
  ·obtain⟨m,hm⟩:∃m,l[i]? =some m:=⟨_,List.getElem?_eq_getElem hil⟩
   obtain⟨q,hq⟩:∃q,l'[i]? =some q:=⟨_,List.getElem?_eq_getElem (by have:=H3.out;omega)⟩
   obtain⟨ad,hA,had,d0,d1⟩:=iH (HL.out.kept HK.out (fun _ _ x=>x)) (by omega) i m hm
   obtain⟨bd,hB,hbd,f0,f1⟩:=iH (Ws.out.kept HK.out (fun _ _ x=>x)) (by omega) i q hq
   subst hA
   subst hB
   have hs:=NK hm hq
   have hneq:=FV m q
   obtain⟨b,hb⟩:∃b:Bool,b=decide (m=q):=⟨_,rfl⟩
   have hb':decide (m≠q)= !b:=by rw[hb];simp
   rw[hb']at hneq
   rw[<-hb]at hs
   have HS:=ah hs;clear hs hm hq hb hb'
   obtain⟨m1,m2⟩:=m
   obtain⟨q1,q2⟩:=q
   unfold je at hneq
   dsimp only at d0 d1 f0 f1 hneq
   cases b
   ·go_wp2_with fail
    go_quiet (fail)
    go_wp2
    go_ret
    exact⟨by rw[HE.out,HS.out];rfl,HK.out.drewN _⟩
   ·go_wp2_with fail
    go_quiet (fail)
    go_wp2
    go_roundw
    case rel=>exact⟨i+1,by omega,by go_num,HK.out.drewN _,by rw[HE.out,HS.out];rfl⟩
    case measure=>simp[intOf];omega
  ·obtain rfl:i=l.length:=by omega
   have hr:rV l l'=true:=by rw[HE.out,List.drop_length,H3.out,List.drop_length];rfl
   have HR:=ah hr;clear hr
   go_wp2
   go_ret
   exact⟨by rw[HR.out];rfl,HK.out⟩
def I64(k:Int):Prop:=(Lit.int .i64 k).wf=true
theorem jL:Keyed Tryz.prog 3:=int_keyed Tryz.underlying3
theorem qB{k:Int}(h:I64 k):keyOf Tryz.prog 3 (.int .i64 k)=some (.int .i64 k):=keyOf_int_mk Tryz.underlying3 h
def bM(w:World)(b n:Nat)(s:Int->Bool):Prop:=
 ∃D:DataW Unit,w.ownsMap Tryz.prog 3 (plainElem Tryz.prog 4) b n D/\∀k,I64 k->D.atKey (.int .i64 k) (.lit (.bool false))=.lit (.bool (s k))
theorem bM.lt{w:World}{b n:Nat}{s:Int->Bool}(h:bM w b n s):b<w.heap.size:=by
 obtain⟨D,h,_⟩:=h
 exact h.lt
theorem bM.kept{F:Nat->Prop}{w w':World}{b n:Nat}{s:Int->Bool}(h:bM w b n s)(hk:Kept F w w')(hf:¬F b):bM w' b n s:=by
 obtain⟨D,ho,hD⟩:=h
 have hlt:=ho.lt
 obtain⟨es,clock,hb,hF,hs,e⟩:=ho
 exact⟨D,⟨es,clock,(hk.block b hlt hf).trans hb,hF,hs,e⟩,hD⟩
theorem bM.made(w:World):bM (w.alloc (.map #[] 0)) w.heap.size 0 (fun _=>false):=
 ⟨_,World.ownsMap_made w _ _ _,fun k hk=>rfl⟩
theorem bM.look{w:World}{b n:Nat}{s:Int->Bool}(h:bM w b n s){k:Int}(hk:I64 k):
  (Instr.lookup 88 (.map (some b)) (.int .i64 k) false).run Tryz.prog w=.ok (.bool (s k)) w:=by
 obtain⟨D,ho,hD⟩:=h
 obtain⟨v,ps,hrun,hv⟩:=ho.lookup jL Tryz.underlying88 (z:=.bool false) (by rfl) (zd:=.lit (.bool false)) (zp:=[]) (plainElem_bool Tryz.underlying4 false) (qB hk)
 rw[hD k hk]at hv
 unfold plainElem at hv
 rw[Tryz.underlying4]at hv
 rw[hrun]
 cases v<;>simp at hv
 rw[hv.1]
theorem bM.store{w:World}{b n:Nat}{s:Int->Bool}(h:bM w b n s)(hn:n<maxLen){x:Int}(hx:I64 x):
  ∃w',(Instr.mapUpdate 88 (.map (some b)) (.int .i64 x) (.bool true)).run Tryz.prog w=.ok () w'/\bM w' b (n+1) (fun y=>decide (y=x)||s y)/\Kept (fun i=>i=b) w w':=by
 obtain⟨D,ho,hD⟩:=h
 obtain⟨w',hrun,ho',hg⟩:=ho.update jL Tryz.underlying88 hn (qB hx) (plainElem_bool Tryz.underlying4 true)
 refine⟨w',hrun,⟨_,ho',?_⟩,(Kept.refl _ _).grownBy hg fun i hi=>by injection hi with hi;exact .inl hi.symm⟩
 intro y hy
 have hm:IsMap D:=ho.isMap
 have hl:WideAt.IsKeyLit (.int .i64 x):=by trivial
 by_cases e:y=x
 ·subst e
  rw[atKey_put_same hm hl]
  simp
 ·have hne:(Lit.int .i64 y)≠ .int .i64 x:=fun h=>e (by injection h)
  rw[atKey_put_other hne,hD y hy]
  simp[e]
theorem bM.ext{w:World}{b n:Nat}{s s':Int->Bool}(h:bM w b n s)(e:∀k,s k=s' k):bM w b n s':=by
 obtain rfl:s=s':=funext e
 exact h
theorem bM.ne{w:World}{b n g:Nat}{s:Int->Bool}{t:TypeId}{cs:Array Value}(h:bM w b n s)(hg:Has w g t cs):b≠g:=by
 rintro rfl
 obtain⟨D,⟨es,clock,hb,_⟩,_⟩:=h
 unfold Has at hg
 rw[hg]at hb
 cases hb
theorem set_any(w:World)(A:Option Addr)(c:Nat)(l:List Int)(hl:Src w 1 A l.length (ints l))(hlen:l.length<=1000000)(hi64:∀x∈l,I64 x):
  Calls Tryz.prog 178 #[.slice A l.length c] w fun e w'=>(∃b,e=.returned (.map (some b))/\bM w' b l.length (inB l)/\w.heap.size<=b)/\Kept aj w w':=by
 have HL:=ah hl;clear hl
 have HI:=ah hi64;clear hi64
 have HM:=ah (bM.made w)
 have hmm:= @run_makeMap Tryz.prog
 go_enter Tryz.func178,Tryz.ntmps178
 go_wp2_with fail
 go_loopw [9] (fun v9 wr=>∃i:Nat,i<=l.length/\v9=.int .i64 i/\bM wr w.heap.size i (inB (l.take i))/\Kept aj w wr) (fun v9 _=>l.length-(intOf v9).toNat)
 case atStart=>exact⟨0,Nat.zero_le _,rfl,HM.out.ext (fun k=>rfl),(Kept.refl _ _).alloc _⟩
 case round=>
  obtain⟨i,hi,rfl,hs,hk⟩:=hrel
  have hsz:=hs.lt
  have HK:=ah hk;clear hk
  by_cases hil:i<l.length
  ·obtain⟨x,hx⟩:∃x,l[i]? =some x:=⟨_,List.getElem?_eq_getElem hil⟩
   obtain⟨ad,hA,had,d0⟩:=nU (HL.out.kept HK.out (fun _ _ x=>x)) (by omega) i x hx
   subst hA
   obtain⟨w2,hst,hs2,hk2⟩:=hs.store (by unfold maxLen;omega) (HI.out x (List.mem_of_getElem? hx))
   have hs3:=hs2.ext (s':=inB (l.take (i+1))) (fun k=>by
    unfold inB
    rw[take_snoc hx]
    simp only[List.contains_append]
    by_cases e:k=x<;>simp[e])
   have hk3:Kept aj w w2:=HK.out.trans hk2 (fun k e=> .inr (by omega))
   have jZ:=ah hs3;clear hs3 hs2 hs hk2 hx
   have bn:=ah hk3;clear hk3
   go_wp2
   go_roundw
   case rel=>exact⟨i+1,by omega,by go_num,jZ.out,bn.out⟩
   case measure=>simp[intOf];omega
  ·obtain rfl:i=l.length:=by omega
   rw[List.take_length]at hs
   have HS:=ah hs;clear hs
   go_wp2
   go_ret
   exact⟨⟨_,rfl,HS.out,Nat.le_refl _⟩,HK.out⟩
theorem Ui(W:World)(B1 B2 b1 b2 n1 n2:Nat)(g t:List Int)(x:Mem)(hx:I64 x.1)(h1:Has W B1 88 #[.map (some b1)])(h2:Has W B2 88 #[.map (some b2)])
  (s1:bM W b1 n1 (inB g)) (s2:bM W b2 n2 (inB t)):
  Calls Tryz.prog 180 #[je x,.pointer (some ⟨B1,0,none⟩),.pointer (some ⟨B2,0,none⟩)] W fun e w'=>e=.returned (.bool (isFirst g t x))/\Kept aj W w':=by
 have hlt1:=h1.lt
 have hlt2:=h2.lt
 have hne1:B1≠W.heap.size:=by omega
 have hne2:B2≠W.heap.size:=by omega
 have c1:∀o,(W.alloc o).cell? ⟨B1,0,none⟩=some (.map (some b1)):=fun o=>(h1.alloc o).cell 0
 have c2:∀o,(W.alloc o).cell? ⟨B2,0,none⟩=some (.map (some b2)):=fun o=>(h2.alloc o).cell 0
 have l1:=fun o=>(s1.kept ((Kept.refl aj W).alloc o) (fun x=>x)).look hx
 have l2:=fun o=>(s2.kept ((Kept.refl aj W).alloc o) (fun x=>x)).look hx
 have hf:=TP g t x
 obtain⟨i1,hi1⟩:∃b,inB g x.1=b:=⟨_,rfl⟩
 obtain⟨i2,hi2⟩:∃b,inB t x.1=b:=⟨_,rfl⟩
 rw[hi1]at l1 hf
 rw[hi2]at l2 hf
 rw[hf]
 clear h1 h2 s1 s2 hlt1 hlt2 hf hi1 hi2 hx
 obtain⟨x1,x2⟩:=x
 unfold je
 dsimp only at l1 l2⊢
 cases i1<;>cases i2
 all_goals
  go_enter Tryz.func180,Tryz.ntmps180
  go_wp2
  go_ret
  exact⟨rfl,(Kept.refl _ _).alloc _⟩
theorem Xg(W:World)(B1 B2 b1 b2 n1 n2:Nat)(g t:List Int)(x:Mem)(hx:I64 x.1)(h1:Has W B1 88 #[.map (some b1)])(h2:Has W B2 88 #[.map (some b2)])
  (s1:bM W b1 n1 (inB g)) (s2:bM W b2 n2 (inB t)):
  Calls Tryz.prog 181 #[je x,.pointer (some ⟨B1,0,none⟩),.pointer (some ⟨B2,0,none⟩)] W fun e w'=>e=.returned (.bool (wI g t x))/\Kept aj W w':=by
 have hlt1:=h1.lt
 have hlt2:=h2.lt
 have hne1:B1≠W.heap.size:=by omega
 have hne2:B2≠W.heap.size:=by omega
 have c1:∀o,(W.alloc o).cell? ⟨B1,0,none⟩=some (.map (some b1)):=fun o=>(h1.alloc o).cell 0
 have c2:∀o,(W.alloc o).cell? ⟨B2,0,none⟩=some (.map (some b2)):=fun o=>(h2.alloc o).cell 0
 have l1:=fun o=>(s1.kept ((Kept.refl aj W).alloc o) (fun x=>x)).look hx
 have l2:=fun o=>(s2.kept ((Kept.refl aj W).alloc o) (fun x=>x)).look hx
 have hf:=Wv g t x
 obtain⟨i1,hi1⟩:∃b,inB g x.1=b:=⟨_,rfl⟩
 obtain⟨i2,hi2⟩:∃b,inB t x.1=b:=⟨_,rfl⟩
 rw[hi1]at l1 hf
 rw[hi2]at l2 hf
 rw[hf]
 clear h1 h2 s1 s2 hlt1 hlt2 hf hi1 hi2 hx
 obtain⟨x1,x2⟩:=x
 unfold je
 dsimp only at l1 l2⊢
 cases i1<;>cases i2
 all_goals
  go_enter Tryz.func181,Tryz.ntmps181
  go_wp2
  go_ret
  exact⟨rfl,(Kept.refl _ _).alloc _⟩
theorem pick_any(w:World)(A:Option Addr)(c:Nat)(l:List Mem)(p:Mem->Bool)(g:Nat)(lb:Array Value)(hl:Src w 2 A l.length (aP l))(hlen:l.length<=1000)
  (eg:∀args w,(callFunc g args).run Tryz.prog w=.ok (.enter g args) w) (hp:Fe w g lb l p):
  Calls Tryz.prog 179 #[.slice A l.length c,.func (.func g) #[] lb] w fun e w'=>(∃O n oc,e=.returned (.slice O n oc)/\cu w.heap.size w' O n oc (l.filter p))/\Kept aj w w':=by
 have HL:=ah hl;clear hl
 have HP:=ah hp;clear hp
 go_enter Tryz.func179,Tryz.ntmps179
 go_wp2_with fail
 go_loopw [5,10] (fun v5 v10 wr=>∃(i:Nat) (O:Option Addr) (n oc:Nat),i<=l.length/\v10=.int .i64 i/\v5=.slice O n oc/\cu w.heap.size wr O n oc ((l.take i).filter p)/\Kept aj w wr) (fun _ v10 _=>l.length-(intOf v10).toNat)
 case atStart=>exact⟨0,none,0,0,Nat.zero_le _,rfl,rfl,cu.nil _ _,Kept.refl _ _⟩
 case round=>
  obtain⟨i,O,n,oc,hi,rfl,rfl,hrow,hk⟩:=hrel
  have ah5:n<=1000:=by have h0:=hrow.1;have:=List.length_filter_le p (l.take i);have:=List.length_take_le i l;omega
  have bV:=ah hrow;clear hrow
  have HK:=ah hk;clear hk
  by_cases hil:i<l.length
  ·obtain⟨m,hm⟩:∃m,l[i]? =some m:=⟨_,List.getElem?_eq_getElem hil⟩
   obtain⟨ad,hA,had,d0,d1⟩:=iH (HL.out.kept HK.out (fun _ _ x=>x)) (by omega) i m hm
   subst hA
   obtain⟨wo,hwo⟩:∃wo:World,wo=wr:=⟨_,rfl⟩
   subst hwo
   have hcall:=fun o=>HP.out (wo.alloc o) m (HK.out.alloc o) (List.mem_of_getElem? hm)
   have hfy:=fun h=>TN (p:=p) hm h
   have hfn:=fun h=>Wu (p:=p) hm h
   have hnm:=Has.new wo 65 #[.int .i64 m.1,.int .i64 m.2]
   obtain⟨b,hb⟩:∃b,p m=b:=⟨_,rfl⟩
   rw[hb]at hcall hfy hfn
   clear hm hb
   obtain⟨m1,m2⟩:=m
   unfold je at hcall
   dsimp only at d0 d1 hcall hnm
   have HC:=ah hcall;clear hcall
   have Sr:=ah hnm;clear hnm
   have hS:Hid (n+1<=maxLen):=ah (by unfold maxLen;omega)
   have hS2:Hid ((n+1)*16<=140737488355328):=ah (by omega)
   cases b
   ·have hf0:=hfn rfl
    have HF:=ah hf0;clear hf0 hfn hfy
    go_wp2_with fail
    refine(HC.out _).mono ?_
    rintro e w2 ⟨rfl,hk2⟩
    have hk3:=(HK.out.alloc _).then hk2
    have hr3:=bV.out.kept (((Kept.refl _ _).alloc _).then hk2)
    have bn:=ah hk3;clear hk3 hk2
    have HR3:=ah hr3;clear hr3
    go_wp2
    go_roundw
    case rel=>exact⟨i+1,O,n,oc,by omega,by go_num,rfl,by rw[HF.out];exact HR3.out,bn.out⟩
    case measure=>simp[intOf];omega
   ·have hf0:=hfy rfl
    have HF:=ah hf0;clear hf0 hfn hfy
    go_wp2_with fail
    refine(HC.out _).mono ?_
    rintro e w2 ⟨rfl,hk2⟩
    have hk3:=(HK.out.alloc _).then hk2
    have hr3:=bV.out.kept (((Kept.refl _ _).alloc _).then hk2)
    have pM:=Sr.out.kept hk2 (fun x=>x)
    have c0:w2.cell? ⟨wo.heap.size,0,none⟩=some (.int .i64 m1):=pM.cell 0
    have c1:w2.cell? ⟨wo.heap.size,1,none⟩=some (.int .i64 m2):=pM.cell 1
    have bn:=ah hk3;clear hk3 hk2 pM
    have HR3:=ah hr3;clear hr3
    go_wp2_with (at_builtin;refine aN nP (.tmp 17) (.tmp 19) rfl rfl (Value.slice O n oc) rfl ((HR3.out.kept ((Kept.refl _ _).alloc _)).2.1) 1 rfl (Src.dn (m:=1) (cs:=#[.int .i64 m1,.int .i64 m2]) (Has.bT _ 65 _ (by simp)) rfl) (by intro u hu;simp at hu;rcases hu with rfl|rfl<;>rfl) hS.out hS2.out ?_;intro O3 Dw w9 ho3 hg3 yL)
    have FX:=bn.out.size
    have hn3:cu w.heap.size w9 O3 (n+1) Dw ((l.take i).filter p++[(m1,m2)]):=(HR3.out.kept ((Kept.refl _ _).alloc _)).snoc (by simp;omega) ho3 yL
    have hk9:Kept aj w w9:=(bn.out.alloc _).grown hg3 (fun k hk=> .inr (HR3.out.2.2 k hk))
    rw[<-HF.out]at hn3
    clear ho3 hg3 yL
    have mF:=ah hn3;clear hn3
    have nK:=ah hk9;clear hk9
    go_wp2
    go_roundw
    case rel=>exact⟨i+1,O3,n+1,Dw,by omega,by go_num,rfl,mF.out,nK.out⟩
    case measure=>simp[intOf];omega
  ·obtain rfl:i=l.length:=by omega
   have hr:=bV.out
   rw[List.take_length]at hr
   have HR:=ah hr;clear hr
   go_wp2
   go_ret
   exact⟨⟨O,n,oc,rfl,HR.out⟩,HK.out⟩
end aO
namespace aO
theorem adh(w:World)(m:Mem):
  Calls Tryz.prog 238 #[je m] w fun e w'=>e=.returned (.bool (decide (chk 1 [m]=0)))/\Kept aj w w':=by
 have hck:=fun(W:World) (g:Nat) (h:Has W g 65 #[.int .i64 m.1,.int .i64 m.2])=>check_any W 1 0 (some ⟨g,0,none⟩) 1 [m] (Src.dn (m:=1) h rfl) (by simp) (by simp) (by decide)
 obtain⟨r,hr⟩:∃r,chk 1 [m]=r:=⟨_,rfl⟩
 rw[hr]at hck⊢
 clear hr
 have HC:=ah hck;clear hck
 obtain⟨m1,m2⟩:=m
 unfold je
 dsimp only at HC⊢
 by_cases hz:r=0
 ·have hb:(r==0)=true:=by simpa using hz
  have hd:decide (r=0)=true:=by simpa using hz
  rw[hd]
  clear hz hd
  go_enter Tryz.func238,Tryz.ntmps238
  go_wp2_with fail
  refine(HC.out _ _ (Has.bT _ _ _ (by simp))).mono ?_
  rintro e w2 ⟨rfl,hk⟩
  have hk2:=(((Kept.refl aj w).alloc _).alloc _).then hk
  have HK:=ah hk2;clear hk2 hk
  go_wp2
  go_ret
  exact⟨rfl,HK.out⟩
 ·have hb:(r==0)=false:=by simpa using hz
  have hd:decide (r=0)=false:=by simpa using hz
  rw[hd]
  clear hz hd
  go_enter Tryz.func238,Tryz.ntmps238
  go_wp2_with fail
  refine(HC.out _ _ (Has.bT _ _ _ (by simp))).mono ?_
  rintro e w2 ⟨rfl,hk⟩
  have hk2:=(((Kept.refl aj w).alloc _).alloc _).then hk
  have HK:=ah hk2;clear hk2 hk
  go_wp2
  go_ret
  exact⟨rfl,HK.out⟩
theorem Xh(W:World)(B:Nat)(m x:Mem)(hB:Has W B 65 #[.int .i64 m.1,.int .i64 m.2]):
  Calls Tryz.prog 237 #[je x,.pointer (some ⟨B,0,none⟩)] W fun e w'=>e=.returned (.bool (decide (x.1=m.1)))/\Kept aj W w':=by
 have hlt:=hB.lt
 have hne:B≠W.heap.size:=by omega
 obtain⟨x1,x2⟩:=x
 obtain⟨m1,m2⟩:=m
 have c0:∀o,(W.alloc o).cell? ⟨B,0,none⟩=some (.int .i64 m1):=fun o=>(hB.alloc o).cell 0
 clear hB hlt
 unfold je
 dsimp only
 go_enter Tryz.func237,Tryz.ntmps237
 go_wp2
 go_ret
 exact⟨by by_cases h:x1=m1<;>simp[h],(Kept.refl _ _).alloc _⟩
theorem adi:∀args w,(callFunc 237 args).run Tryz.prog w=.ok (.enter 237 args) w:=enters_of Tryz.func237 (by kernel_rfl) rfl
def RowOf(v:Value)(k:Nat):Prop:=v.ownBlock=some k
theorem aaA(b:Nat)(w:World)(A A3:Option Addr)(n0 c0 c3:Nat)(l j:List Mem)(hrow:cu b w A n0 c0 l)(hb:b<=w.heap.size)(hj:Src w 2 A3 j.length (aP j))(hjr:0<j.length->∀ad,A3=some ad->¬RowOf (.slice A n0 c0) ad.block)
  (hl:l.length<=1000) (hjl:j.length<=1000):
  Calls Tryz.prog 182 #[.slice A n0 c0,.slice A3 j.length c3] w fun e w'=>(∃O n oc,e=.returned (.slice O n oc)/\cu b w' O n oc (fD l j))/\Kept (RowOf (.slice A n0 c0)) w w':=by
 have N8:∀i,(fD l (j.take i)).length<=2000:=by
  intro i
  have h1:∀(a:List Mem) (b:List Mem),(fD b a).length<=b.length+a.length:=by
   intro a
   induction a with
   |nil=>intro b;simp[fD]
   |cons x a ih=>
    intro b
    have h2:=ih (jA b x)
    have h3:(jA b x).length<=b.length+1:=by unfold jA;split<;>simp
    have h4:fD b (x::a)=fD (jA b x) a:=rfl
    rw[h4,List.length_cons]
    omega
  have h2:=h1 (j.take i) l
  have h3:=List.length_take_le' i j
  exact Nat.le_trans h2 (by clear h1;omega)
 have HJL:=ah N8;clear N8
 have HJ:=ah hj;clear hj
 have HJR:=ah hjr;clear hjr
 have agf:=ah hrow;clear hrow
 go_enter Tryz.func182,Tryz.ntmps182
 go_wp2_with fail
 go_loopw [0,10] (fun v0 v10 wr=>∃(i:Nat) (O:Option Addr) (n oc:Nat),i<=j.length/\v10=.int .i64 i/\v0=.slice O n oc/\cu b wr O n oc (fD l (j.take i))/\(∀k,RowOf (.slice O n oc) k->RowOf (.slice A n0 c0) k\/w.heap.size<=k)/\Kept (RowOf (.slice A n0 c0)) w wr) (fun _ v10 _=>j.length-(intOf v10).toNat)
 case atStart=>exact⟨0,A,n0,c0,Nat.zero_le _,rfl,rfl,agf.out,(fun k h=> .inl h),Kept.refl _ _⟩
 case round=>
  obtain⟨i,O,n,oc,hi,rfl,rfl,hrow,hro,hk⟩:=hrel
  have hsz:=hk.size
  have acF:=HJL.out i
  obtain⟨Y,hY⟩:∃Y,fD l (j.take i)=Y:=⟨_,rfl⟩
  rw[hY]at hrow acF
  have Xi:=hrow.1
  rw[<-Xi]at acF
  have bV:=ah hrow;clear hrow
  have Xj:=ah hro;clear hro
  have HK:=ah hk;clear hk
  by_cases hil:i<j.length
  ·obtain⟨m,hm⟩:∃m,j[i]? =some m:=⟨_,List.getElem?_eq_getElem hil⟩
   obtain⟨ad,hA,had,d0,d1⟩:=iH (HJ.out.kept HK.out (HJR.out (by omega))) (by omega) i m hm
   subst hA
   obtain⟨wo,hwo⟩:∃wo:World,wo=wr:=⟨_,rfl⟩
   subst hwo
   have hjs:fD l (j.take (i+1))=jA Y m:=by rw[take_snoc hm,NG,hY]
   have hjo:jA Y m=if n<4/\chk 1 [m]=0/\xx (fun x=>decide (x.1=m.1)) Y=false then Y++[m]else Y:=by rw[Xi];rfl
   rw[hjo]at hjs
   clear hjo hY
   have hmay:=fun W=>adh W m
   have hnm:=Has.new wo 65 #[.int .i64 m.1,.int .i64 m.2]
   have hco:=fun W (hW:Kept aj (wo.alloc (.cells #[.int .i64 m.1,.int .i64 m.2] 65)) W)=>Ee W O oc Y (fun x=>decide (x.1=m.1)) 237 #[.pointer (some ⟨wo.heap.size,0,none⟩)] ((bV.out.kept (((Kept.refl aj wo).alloc _).then hW)).src) (by omega) adi
    (fun W' x hW' _=>Xh W' wo.heap.size m x (hnm.kept (hW.then hW') (fun x=>x)))
   rw[<-Xi]at hco
   obtain⟨tb,htb⟩:∃tb,xx (fun x=>decide (x.1=m.1)) Y=tb:=⟨_,rfl⟩
   obtain⟨ck,hck⟩:∃ck,chk 1 [m]=ck:=⟨_,rfl⟩
   rw[htb]at hco hjs
   rw[hck]at hmay hjs
   clear htb hck hm Xi
   have Ef:=ah hmay;clear hmay
   have qK:=ah hco;clear hco
   have HJS:=ah hjs;clear hjs
   have Sr:=ah hnm;clear hnm
   obtain⟨m1,m2⟩:=m
   dsimp only at d0 d1 Ef qK Sr
   unfold je at Ef
   dsimp only at Ef
   by_cases h4:n<4
   rotate_left
   ·have hjn:fD l (j.take (i+1))=Y:=by rw[HJS.out,if_neg (fun h=>h4 h.1)]
    have N9:=ah hjn;clear hjn
    have h4':¬(n:Int)<4:=by omega
    go_wp2
    go_roundw
    case rel=>exact⟨i+1,O,n,oc,by omega,by go_num,rfl,by rw[N9.out];exact bV.out.kept ((Kept.refl _ _).alloc _),Xj.out,HK.out.alloc _⟩
    case measure=>simp[intOf];omega
   have h4':(n:Int)<4:=by omega
   by_cases hc:ck=0
   rotate_left
   ·have hjn:fD l (j.take (i+1))=Y:=by rw[HJS.out,if_neg (fun h=>hc h.2.1)]
    have N9:=ah hjn;clear hjn
    have hd:decide (ck=0)=false:=by simpa using hc
    rw[hd]at Ef
    clear hd hc
    go_wp2_with fail
    refine(Ef.out _).mono ?_
    rintro e w2 ⟨rfl,hk2⟩
    have hk3:=(HK.out.alloc _).then (hk2.mono (fun i hi=>hi.elim))
    have hr3:=bV.out.kept (((Kept.refl _ _).alloc _).then hk2)
    have bn:=ah hk3;clear hk3 hk2
    have HR3:=ah hr3;clear hr3
    go_wp2
    go_roundw
    case rel=>exact⟨i+1,O,n,oc,by omega,by go_num,rfl,by rw[N9.out];exact HR3.out,Xj.out,bn.out⟩
    case measure=>simp[intOf];omega
   have hd:decide (ck=0)=true:=by simpa using hc
   rw[hd]at Ef
   clear hd
   cases tb
   rotate_left
   ·have hjn:fD l (j.take (i+1))=Y:=by rw[HJS.out,if_neg (fun h=>by cases h.2.2)]
    have N9:=ah hjn;clear hjn hc
    go_wp2_with fail
    refine(Ef.out _).mono ?_
    rintro e w2 ⟨rfl,hk2⟩
    have aW:=ah hk2;clear hk2
    go_wp2_with fail
    refine(qK.out _ aW.out).mono ?_
    rintro e w3 ⟨rfl,hk2⟩
    have hk4:=((HK.out.alloc _).then (aW.out.mono (fun i hi=>hi.elim))).then (hk2.mono (fun i hi=>hi.elim))
    have hr3:=bV.out.kept ((((Kept.refl _ _).alloc _).then aW.out).then hk2)
    have bn:=ah hk4;clear hk4 hk2
    have HR3:=ah hr3;clear hr3
    go_wp2
    go_roundw
    case rel=>exact⟨i+1,O,n,oc,by omega,by go_num,rfl,by rw[N9.out];exact HR3.out,Xj.out,bn.out⟩
    case measure=>simp[intOf];omega
   have hjn:fD l (j.take (i+1))=Y++[(m1,m2)]:=by rw[HJS.out,if_pos ⟨h4,hc,rfl⟩]
   have N9:=ah hjn;clear hjn hc
   have hS:Hid (n+1<=maxLen):=ah (by unfold maxLen;omega)
   have hS2:Hid ((n+1)*16<=140737488355328):=ah (by omega)
   go_wp2_with fail
   refine(Ef.out _).mono ?_
   rintro e w2 ⟨rfl,hk2⟩
   have aW:=ah hk2;clear hk2
   go_wp2_with fail
   refine(qK.out _ aW.out).mono ?_
   rintro e w3 ⟨rfl,hk2⟩
   have hk4:=((HK.out.alloc _).then (aW.out.mono (fun i hi=>hi.elim))).then (hk2.mono (fun i hi=>hi.elim))
   have hr3:=bV.out.kept ((((Kept.refl _ _).alloc _).then aW.out).then hk2)
   have pM:=(Sr.out.kept aW.out (fun x=>x)).kept hk2 (fun x=>x)
   have e0:w3.cell? ⟨wo.heap.size,0,none⟩=some (.int .i64 m1):=pM.cell 0
   have e1:w3.cell? ⟨wo.heap.size,1,none⟩=some (.int .i64 m2):=pM.cell 1
   have bn:=ah hk4;clear hk4 hk2 pM
   have HR3:=ah hr3;clear hr3
   go_wp2_with (at_builtin;refine aN nP (.tmp 28) (.tmp 30) rfl rfl (Value.slice O n oc) rfl ((HR3.out.kept ((Kept.refl _ _).alloc _)).2.1) 1 rfl (Src.dn (m:=1) (cs:=#[.int .i64 m1,.int .i64 m2]) (Has.bT _ 65 _ (by simp)) rfl) (by intro u hu;simp at hu;rcases hu with rfl|rfl<;>rfl) hS.out hS2.out ?_;intro O3 Dw w9 ho3 hg3 yL)
   have FX:=bn.out.size
   have hn3:cu b w9 O3 (n+1) Dw (Y++[(m1,m2)]):=(HR3.out.kept ((Kept.refl _ _).alloc _)).snoc (by simp;omega) ho3 yL
   have hk9:Kept (RowOf (.slice A n0 c0)) w w9:=(bn.out.alloc _).grown hg3 (fun k hk=>Xj.out k hk)
   have aex:∀k,RowOf (.slice O3 (n+1) Dw) k->RowOf (.slice A n0 c0) k\/w.heap.size<=k:=by
    intro k hk
    unfold RowOf at hk
    rcases yL with e|e
    ·exact Xj.out k (e.symm.trans hk)
    ·rw[hk]at e
     injection e with e
     right
     simp at e
     omega
   rw[<-N9.out]at hn3
   clear ho3 hg3 yL
   have mF:=ah hn3;clear hn3
   have nK:=ah hk9;clear hk9
   have agP:=ah aex;clear aex
   go_wp2
   go_roundw
   case rel=>exact⟨i+1,O3,n+1,Dw,by omega,by go_num,rfl,mF.out,agP.out,nK.out⟩
   case measure=>simp[intOf];omega
  ·obtain rfl:i=j.length:=by omega
   rw[List.take_length]at hY
   have HY:=ah hY;clear hY Xi
   go_wp2
   go_ret
   exact⟨⟨O,n,oc,rfl,by rw[HY.out];exact bV.out⟩,HK.out⟩
theorem aaB(w:World)(n:Nat)(hn:0<n)(hn2:n<=100000):
  Calls Tryz.prog 239 #[.slice none 0 0,.int .i64 n] w fun e w'=>(∃O oc,e=.returned (.slice O 0 oc)/\cu w.heap.size w' O 0 oc [])/\Kept aj w w':=by
 obtain⟨i0,hi,hz0,hz1,hz2⟩:=info_parts (show(Tryz.prog.info? 65).map (fun i=>(i.zero,i.size,i.bytes))=some (some (.agg #[.int .i64 0,.int .i64 0]),2,16) by kernel_rfl)
 have hG:=grownCap_ge w (0+n) 0 65
 have hG2:=grownCap_le_maxLen w (0+n) 0 65 (by unfold maxLen;omega)
 have hrz:∀ty,(Builtin.append_ #[22,3] ty #[.slice none 0 0,.int .i64 n]).run Tryz.prog w=
   .ok (.slice (some ⟨w.heap.size,0,none⟩) n (grownCap w (0+n) 0 65)) (w.drew.alloc (.cells (#[]++Builtin.zeroCells #[.int .i64 0,.int .i64 0] n++Builtin.zeroCells #[.int .i64 0,.int .i64 0] (grownCap w (0+n) 0 65-(0+n))) 65)):=fun ty=>by
  have h:=Lib.run_append_grow_zeros w 22 3 ty 65 i0 (.agg #[.int .i64 0,.int .i64 0]) .i64 .i64 Tryz.underlying22 Tryz.underlying3 hi hz0 none 0 0 [] (run_firstCells_none w.drew i0.size 0 0 0) n (by omega) (by rw[hz1];decide) (by omega) (by omega) (by rw[hz2];omega)
   (by exact growslice_fits (by omega) (by rw[hz2];omega))
  rw[h]
  simp[Value.cells]
 obtain⟨G,hGe⟩:∃G,G=grownCap w (0+n) 0 65:=⟨_,rfl⟩
 rw[<-hGe]at hrz hG hG2
 have hnew:Has (w.alloc (.cells (Builtin.zeroCells #[.int .i64 0,.int .i64 0] n++Builtin.zeroCells #[.int .i64 0,.int .i64 0] (G-n)) 65)).drew w.heap.size 65 (Builtin.zeroCells #[.int .i64 0,.int .i64 0] n++Builtin.zeroCells #[.int .i64 0,.int .i64 0] (G-n)):=(Has.new w _ _).drew
 have hrow:cu w.heap.size (w.alloc (.cells (Builtin.zeroCells #[.int .i64 0,.int .i64 0] n++Builtin.zeroCells #[.int .i64 0,.int .i64 0] (G-n)) 65)).drew (some ⟨w.heap.size,0,none⟩) 0 G []:=by
  refine⟨rfl,⟨rfl,.inr ⟨w.heap.size,G,_,rfl,Nat.zero_le _,hnew,Nat.zero_le _,hG2,?_,by simp[aP]⟩⟩,fun k hk=>by simp[Value.ownBlock]at hk;omega⟩
  simp[Builtin.zeroCells]
  omega
 have bV:=ah hrow;clear hrow hnew
 have hG3:G<=9223372036854775807:=by unfold maxLen at hG2;omega
 have hnp:(0:Int)<n:=by omega
 clear hGe hi hz0 hz1 hz2 hG2
 go_enter Tryz.func239,Tryz.ntmps239
 go_wp2_with (at_builtin;refine Lib.wpList_append_run _ rfl _ _ _ _ rfl _ _ rfl rfl _ _ (hrz _) ?_)
 go_wp2
 go_ret
 exact⟨⟨_,_,rfl,bV.out⟩,((Kept.refl _ _).alloc _).drew⟩
end aO
end Go.Proofs.YtfjdpbbgfjhnlaaGreat

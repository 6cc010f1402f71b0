/- Part 17 of what the proof needs. -/
import Derived.Test.YtolkgbafebehfaaGreatZP14
import Derived.Lib.AppendZerosOnto
set_option linter.unusedSimpArgs false
set_option linter.unusedVariables false
set_option maxHeartbeats 32000000
set_option maxRecDepth 100000
namespace Go.Proofs.YtolkgbafebehfaaGreat
open Go.RowKit Go.Shelf
set_option maxRecDepth 100000
namespace aP
def BR(w:World)(g:Nat)(lb:Array Value)(l:List Mem)(p:Mem->Bool):Prop:=
 ∀W m,Kept aj w W->m∈l->Calls Tryz.prog g (#[iJ m]++lb) W fun e w'=>e=.returned (.bool (p m))/\Kept aj W w'
theorem BR.kept{w w':World}{g:Nat}{lb:Array Value}{l:List Mem}{p:Mem->Bool}(h:BR w g lb l p)(hk:Kept aj w w'):BR w' g lb l p:=fun W m hW hm=>h W m (hk.then hW) hm
def uP(p:Mem->Bool)(l:List Mem):Bool:=l.any p
theorem RE(w:World)(A:Option Addr)(c:Nat)(l:List Mem)(p:Mem->Bool)(g:Nat)(lb:Array Value)(hl:Src w 2 A l.length (aS l))(hlen:l.length<=1000000)
  (eg:∀args w,(callFunc g args).run Tryz.prog w=.ok (.enter g args) w) (hp:BR w g lb l p):
  Calls Tryz.prog 263 #[.slice A l.length c,.func (.func g) #[] lb] w fun e w'=>(∃n:Int,e=.returned (.int .i64 n)/\(0<=n↔uP p l=true))/\Kept aj w w':=by
 have HL:=ah hl;clear hl
 have HP:=ah hp;clear hp
 go_enter Tryz.func263,Tryz.ntmps263
 go_wp2_with fail
 go_loopw [8] (fun v8 wr=>∃i:Nat,i<=l.length/\v8=.int .i64 i/\Kept aj w wr/\uP p l=uP p (l.drop i)) (fun v8 _=>l.length-(intOf v8).toNat)
 case atStart=>exact⟨0,Nat.zero_le _,rfl,Kept.refl _ _,rfl⟩
 case round=>
  obtain⟨i,hi,rfl,hk,he⟩:=hrel
  have HK:=ah hk;clear hk
  have HE:=ah he;clear he
  by_cases hil:i<l.length
  ·obtain⟨m,hm⟩:∃m,l[i]? =some m:=⟨_,List.getElem?_eq_getElem hil⟩
   obtain⟨ad,hA,had,d0,d1⟩:=ig (HL.out.kept HK.out (fun _ _ x=>x)) (by omega) i m hm
   subst hA
   have hcall:=HP.out wr m HK.out (List.mem_of_getElem? hm)
   have hs:uP p (l.drop i)=(p m||uP p (l.drop (i+1))):=by unfold uP;rw[drop_cons hm,List.any_cons]
   obtain⟨b,hb⟩:∃b,p m=b:=⟨_,rfl⟩
   rw[hb]at hcall hs
   have HS:=ah hs;clear hs hm hb
   obtain⟨m1,m2⟩:=m
   unfold iJ at hcall
   dsimp only at d0 d1 hcall
   have HC:=ah hcall;clear hcall
   cases b
   ·go_wp2_with fail
    refine HC.out.mono ?_
    rintro e w2 ⟨rfl,hk2⟩
    have hk3:=HK.out.then hk2
    have bf:=ah hk3;clear hk3 hk2
    go_wp2
    go_roundw
    case rel=>exact⟨i+1,by omega,by go_num,bf.out,by rw[HE.out,HS.out];rfl⟩
    case measure=>simp[intOf];omega
   ·go_wp2_with fail
    refine HC.out.mono ?_
    rintro e w2 ⟨rfl,hk2⟩
    have hk3:=HK.out.then hk2
    have bf:=ah hk3;clear hk3 hk2
    go_wp2
    go_ret
    exact⟨⟨_,rfl,⟨fun _=>by rw[HE.out,HS.out];rfl,fun _=>by omega⟩⟩,bf.out⟩
  ·obtain rfl:i=l.length:=by omega
   go_wp2
   go_ret
   exact⟨⟨-1,rfl,⟨fun h=>by omega,fun h=>by rw[HE.out,List.drop_length]at h;cases h⟩⟩,HK.out⟩
theorem Au(w:World)(A:Option Addr)(c:Nat)(l:List Mem)(p:Mem->Bool)(g:Nat)(lb:Array Value)(hl:Src w 2 A l.length (aS l))(hlen:l.length<=1000000)
  (eg:∀args w,(callFunc g args).run Tryz.prog w=.ok (.enter g args) w) (hp:BR w g lb l p):
  Calls Tryz.prog 151 #[.slice A l.length c,.func (.func g) #[] lb] w fun e w'=>e=.returned (.bool (uP p l))/\Kept aj w w':=by
 have hi:=RE w A c l p g lb hl hlen eg hp
 have HI:=ah hi;clear hi hl hp eg
 obtain⟨b,hb⟩:∃b,uP p l=b:=⟨_,rfl⟩
 rw[hb]at HI⊢
 clear hb
 go_enter Tryz.func151,Tryz.ntmps151
 go_wp2_with fail
 refine HI.out.mono ?_
 rintro e w2 ⟨⟨n,rfl,hn⟩,hk⟩
 have HN:=ah hn;clear hn
 go_wp2
 go_ret
 refine⟨?_,hk⟩
 have h:=HN.out
 cases b
 ·have:decide (0<=n)=false:=by rw[decide_eq_false_iff_not];intro x;have:=h.1 x;cases this
  rw[<-this];rfl
 ·have:decide (0<=n)=true:=by rw[decide_eq_true_eq];exact h.2 rfl
  rw[<-this];rfl
theorem twin_any(W:World)(B:Nat)(m x:Mem)(hB:Has W B 53 #[.int .i64 m.1,.int .i64 m.2]):
  Calls Tryz.prog 188 #[iJ x,.pointer (some ⟨B,0,none⟩)] W fun e w'=>e=.returned (.bool (decide (x.1=m.1)))/\Kept aj W w':=by
 have hlt:=hB.lt
 have hne:B≠W.heap.size:=by omega
 obtain⟨x1,x2⟩:=x
 obtain⟨m1,m2⟩:=m
 have c0:∀o,(W.alloc o).cell? ⟨B,0,none⟩=some (.int .i64 m1):=fun o=>(hB.alloc o).cell 0
 clear hB hlt
 unfold iJ
 dsimp only
 go_enter Tryz.func188,Tryz.ntmps188
 go_wp2
 go_ret
 exact⟨by by_cases h:x1=m1<;>simp[h],(Kept.refl _ _).alloc _⟩
theorem aaB:∀args w,(callFunc 188 args).run Tryz.prog w=.ok (.enter 188 args) w:=enters_of Tryz.func188 (by kernel_rfl) rfl
theorem one_any(w:World)(A:Option Addr)(c:Nat)(l:List Mem)(m:Mem)(hl:Src w 2 A l.length (aS l))(hlen:l.length<=1000000):
  Calls Tryz.prog 104 #[iJ m,.slice A l.length c] w fun e w'=>e=.returned (.int .i64 (mZ m l))/\Kept aj w w':=by
 have hone:mZ m l=if m.1<0\/4<=m.1 then 1 else if m.2<1\/1073741824<m.2 then 5 else if uP (fun x=>decide (x.1=m.1)) l then 18 else 0:=rfl
 have hnb:=Has.new w 53 #[.int .i64 m.1,.int .i64 m.2]
 have hco:=Au (w.alloc (.cells #[.int .i64 m.1,.int .i64 m.2] 53)) A c l (fun x=>decide (x.1=m.1)) 188 #[.pointer (some ⟨w.heap.size,0,none⟩)] (hl.kept ((Kept.refl aj w).alloc _) (fun _ _ x=>x)) hlen aaB
  (fun W x hW _=>twin_any W w.heap.size m x (hnb.kept hW (fun x=>x)))
 obtain⟨b,hb⟩:∃b,uP (fun x=>decide (x.1=m.1)) l=b:=⟨_,rfl⟩
 rw[hb]at hco hone
 have uD:=ah hco;clear hco hnb hl hb
 obtain⟨r,hr⟩:∃r,mZ m l=r:=⟨_,rfl⟩
 rw[hr]at hone⊢
 clear hr
 obtain⟨m1,m2⟩:=m
 unfold iJ
 dsimp only at hone uD⊢
 have sQ:=ah hone;clear hone
 by_cases g1:m1<0
 ·have h1:=sQ.out
  rw[if_pos (.inl g1)]at h1
  subst h1
  go_enter Tryz.func104,Tryz.ntmps104
  go_wp2
  go_ret
  exact⟨rfl,(Kept.refl _ _).alloc _⟩
 by_cases g2:4<=m1
 ·have h1:=sQ.out
  rw[if_pos (.inr g2)]at h1
  subst h1
  go_enter Tryz.func104,Tryz.ntmps104
  go_wp2
  go_ret
  exact⟨rfl,(Kept.refl _ _).alloc _⟩
 by_cases g3:m2<1
 ·have h1:=sQ.out
  rw[if_neg (by omega),if_pos (.inl g3)]at h1
  subst h1
  go_enter Tryz.func104,Tryz.ntmps104
  go_wp2
  go_ret
  exact⟨rfl,(Kept.refl _ _).alloc _⟩
 by_cases g4:1073741824<m2
 ·have h1:=sQ.out
  rw[if_neg (by omega),if_pos (.inr g4)]at h1
  subst h1
  go_enter Tryz.func104,Tryz.ntmps104
  go_wp2
  go_ret
  exact⟨rfl,(Kept.refl _ _).alloc _⟩
 have h1:=sQ.out
 rw[if_neg (by omega),if_neg (by omega)]at h1
 cases b
 ·rw[if_neg (by decide)]at h1
  subst h1
  go_enter Tryz.func104,Tryz.ntmps104
  go_wp2_with fail
  refine uD.out.mono ?_
  rintro e w2 ⟨rfl,hk⟩
  go_wp2
  go_ret
  exact⟨rfl,((Kept.refl _ _).alloc _).then hk⟩
 ·rw[if_pos rfl]at h1
  subst h1
  go_enter Tryz.func104,Tryz.ntmps104
  go_wp2_with fail
  refine uD.out.mono ?_
  rintro e w2 ⟨rfl,hk⟩
  go_wp2
  go_ret
  exact⟨rfl,((Kept.refl _ _).alloc _).then hk⟩
theorem check_any(w:World)(ep fl:Int)(A:Option Addr)(c:Nat)(l:List Mem)(hl:Src w 2 A l.length (aS l))(hlen:l.length<=1000000)(hcap:l.length<=c)(hcm:c<=9223372036854775807):
  Calls Tryz.prog 41 #[mP ep A l.length c fl] w fun e w'=>e=.returned (.int .i64 (chk ep l))/\Kept aj w w':=by
 have HL:=ah hl;clear hl
 obtain⟨r,hr⟩:∃r,chk ep l=r:=⟨_,rfl⟩
 have HRR:=ah hr
 rw[hr]
 clear hr
 by_cases h1:ep<1
 ·have hr:r=5:=by rw[<-HRR.out];unfold chk;rw[if_pos (.inl h1)]
  subst hr
  go_enter Tryz.func41,Tryz.ntmps41
  go_wp2
  go_ret
  exact⟨rfl,(Kept.refl _ _).alloc _⟩
 by_cases h2:1073741824<ep
 ·have hr:r=5:=by rw[<-HRR.out];unfold chk;rw[if_pos (.inr h2)]
  subst hr
  go_enter Tryz.func41,Tryz.ntmps41
  go_wp2
  go_ret
  exact⟨rfl,(Kept.refl _ _).alloc _⟩
 by_cases h3:l.length=0
 ·have hr:r=7:=by rw[<-HRR.out];unfold chk;rw[if_neg (by omega),if_pos h3]
  subst hr
  rw[h3]
  clear h3
  go_enter Tryz.func41,Tryz.ntmps41
  go_wp2
  go_ret
  exact⟨rfl,(Kept.refl _ _).alloc _⟩
 have h3':((l.length:Int)==0)=false:=by rw[beq_eq_false_iff_ne];omega
 by_cases h4:4<l.length
 ·have hr:r=6:=by rw[<-HRR.out];unfold chk;rw[if_neg (by omega),if_neg h3,if_pos h4]
  subst hr
  have h4':(4:Int)<l.length:=by omega
  clear h3
  go_enter Tryz.func41,Tryz.ntmps41
  go_wp2
  go_ret
  exact⟨rfl,(Kept.refl _ _).alloc _⟩
 have hr:r=jl (l.take 0) (l.drop 0):=by rw[<-HRR.out];unfold chk;rw[if_neg (by omega),if_neg h3,if_neg h4];rfl
 have HR:=ah hr;clear hr
 have h4':¬(4:Int)<l.length:=by omega
 have HN:=ah (Has.new w 25 #[.int .i64 ep,.slice A l.length c,.int .u64 fl])
 clear h3 h4
 go_enter Tryz.func41,Tryz.ntmps41
 go_wp2_with fail
 go_loopw [28] (fun v28 wr=>∃i:Nat,i<=l.length/\v28=.int .i64 i/\Has wr w.heap.size 25 #[.int .i64 ep,.slice A l.length c,.int .u64 fl]/\Kept aj w wr/\r=jl (l.take i) (l.drop i)) (fun v28 _=>l.length-(intOf v28).toNat)
 case atStart=>exact⟨0,Nat.zero_le _,rfl,HN.out,(Kept.refl _ _).alloc _,HR.out⟩
 case round=>
  obtain⟨i,hi,rfl,hh,hk,he⟩:=hrel
  have hlt0:=hh.lt
  have HH:=ah hh;clear hh
  have HK:=ah hk;clear hk
  have HE:=ah he;clear he
  by_cases hil:i<l.length
  ·obtain⟨m,hm⟩:∃m,l[i]? =some m:=⟨_,List.getElem?_eq_getElem hil⟩
   obtain⟨ad,hA,had,d0,d1⟩:=ig (HL.out.kept HK.out (fun _ _ x=>x)) (by omega) i m hm
   subst hA
   obtain⟨wo,hwo⟩:∃wo:World,wo=wr:=⟨_,rfl⟩
   subst hwo
   have hic:i<=c:=by omega
   have V2:(l.take i).length=i:=by rw[List.length_take];omega
   have hone:=fun W (hW:Kept aj w W)=>one_any W (some ad) c (l.take i) m (by
    have h1:=(HL.out.kept hW (fun _ _ x=>x)).take (k:=i) (by omega)
    rw[xQ]at h1
    rw[V2]
    exact h1) (by omega)
   rw[V2]at hone
   have hm':=fun h=>Ac hm h
   have V3:=fun h=>Ad hm h
   obtain⟨r1,hr1⟩:∃r1,mZ m (l.take i)=r1:=⟨_,rfl⟩
   rw[hr1]at hone hm' V3
   have sQ:=ah hone;clear hone hm hr1
   have fQ:=ah hm';clear hm'
   have iC:=ah V3;clear V3
   obtain⟨m1,m2⟩:=m
   unfold iJ at sQ
   dsimp only at d0 d1 sQ
   have e0:∀o,(wo.alloc o).cell? ⟨w.heap.size,1,none⟩=some (.slice (some ad) l.length c):=fun o=>(HH.out.alloc o).cell 1
   clear V2
   go_wp2_with fail
   refine wp_region_still_tail 5 (by kernel_rfl) (by kernel_rfl) ?_
   simp only[List.take_succ_cons,List.take_zero,List.drop_succ_cons,List.drop_zero]
   change wpStill _ _ (World.drew (wo.alloc _)) _ _ _
   repeat still_step
   refine wpStill_nil ?_
   change wpList _ _ _ _ _ (World.drew (wo.alloc _))
   go_wp2_with fail
   refine(sQ.out _ ((HK.out.alloc _).drew)).mono ?_
   rintro e w3 ⟨rfl,hk3⟩
   have hk4:=((HK.out.alloc _).drew).then hk3
   have hh4:=((HH.out.alloc _).drew).kept hk3 (fun x=>x)
   have dR:=ah hk4;clear hk4 hk3
   have HH4:=ah hh4;clear hh4
   by_cases hz:r1=0
   ·have hs:r=jl (l.take (i+1)) (l.drop (i+1)):=by rw[HE.out,fQ.out hz]
    have HS:=ah hs;clear hs
    have hzb:(r1 !=0)=false:=by rw[hz];rfl
    have hzc:(r1==0)=true:=by rw[hz];rfl
    clear hz
    go_wp2
    go_roundw
    case rel=>exact⟨i+1,by omega,by go_num,HH4.out,dR.out,HS.out⟩
    case measure=>simp[intOf];omega
   ·have hs:r=r1:=by rw[HE.out,iC.out hz]
    subst hs
    have hzb:(r !=0)=true:=by simpa using hz
    have hzc:(r==0)=false:=by simpa using hz
    clear hz
    go_wp2
    go_ret
    exact⟨rfl,dR.out⟩
  ·obtain rfl:i=l.length:=by omega
   have hr:r=0:=by rw[HE.out,List.drop_length];rfl
   subst hr
   go_wp2
   go_ret
   exact⟨rfl,HK.out⟩
end aP
end Go.Proofs.YtolkgbafebehfaaGreat
namespace Go.Proofs.YtolkgbafebehfaaGreat
open Go.RowKit Go.Shelf Go.Maps
set_option maxRecDepth 100000
namespace aP
theorem Zq(w:World)(A B:Option Addr)(c d n n':Nat)(l l':List Mem)(hn:n=l.length)(hn':n'=l'.length)(hl:Src w 2 A l.length (aS l))(hl':Src w 2 B l'.length (aS l'))(hlen:l.length<=1000000)(hlen':l'.length<=1000000):
  Calls Tryz.prog 259 #[.slice A n c,.slice B n' d] w fun e w'=>e=.returned (.bool (zI l l'))/\Kept aj w w':=by
 subst hn
 subst hn'
 have HL:=ah hl;clear hl
 have HL':=ah hl';clear hl'
 by_cases h3:l.length=l'.length
 rotate_left
 ·have b1:((l.length:Int)==(l'.length:Int))=false:=by rw[beq_eq_false_iff_ne];omega
  have b2:((l.length:Int) !=(l'.length:Int))=true:=by rw[bne_iff_ne];omega
  rw[Zo h3]
  clear h3
  go_enter Tryz.func259,Tryz.ntmps259
  go_wp2
  go_ret
  exact⟨rfl,Kept.refl _ _⟩
 rw[<-h3]at HL'⊢
 have H3:=ah h3;clear h3
 go_enter Tryz.func259,Tryz.ntmps259
 go_wp2_with fail
 go_loopw [13] (fun v13 wr=>∃i:Nat,i<=l.length/\v13=.int .i64 i/\Kept aj w wr/\zI l l'=zI (l.drop i) (l'.drop i)) (fun v13 _=>l.length-(intOf v13).toNat)
 case atStart=>exact⟨0,Nat.zero_le _,rfl,Kept.refl _ _,rfl⟩
 case round=>
  obtain⟨i,hi,rfl,hk,he⟩:=hrel
  have HK:=ah hk;clear hk
  have HE:=ah he;clear he
  by_cases hil:i<l.length
  ·obtain⟨m,hm⟩:∃m,l[i]? =some m:=⟨_,List.getElem?_eq_getElem hil⟩
   obtain⟨q,hq⟩:∃q,l'[i]? =some q:=⟨_,List.getElem?_eq_getElem (by have:=H3.out;omega)⟩
   obtain⟨ad,hA,had,d0,d1⟩:=ig (HL.out.kept HK.out (fun _ _ x=>x)) (by omega) i m hm
   obtain⟨bd,hB,hbd,f0,f1⟩:=ig (HL'.out.kept HK.out (fun _ _ x=>x)) (by omega) i q hq
   subst hA
   subst hB
   have hs:=VE hm hq
   have hneq:=Ls m q
   obtain⟨b,hb⟩:∃b:Bool,b=decide (m=q):=⟨_,rfl⟩
   have hb':decide (m≠q)= !b:=by rw[hb];simp
   rw[hb']at hneq
   rw[<-hb]at hs
   have HS:=ah hs;clear hs hm hq hb hb'
   obtain⟨m1,m2⟩:=m
   obtain⟨q1,q2⟩:=q
   unfold iJ at hneq
   dsimp only at d0 d1 f0 f1 hneq
   cases b
   ·go_wp2_with fail
    go_quiet (fail)
    go_wp2
    go_ret
    exact⟨by rw[HE.out,HS.out];rfl,HK.out.drewN _⟩
   ·go_wp2_with fail
    go_quiet (fail)
    go_wp2
    go_roundw
    case rel=>exact⟨i+1,by omega,by go_num,HK.out.drewN _,by rw[HE.out,HS.out];rfl⟩
    case measure=>simp[intOf];omega
  ·obtain rfl:i=l.length:=by omega
   have hr:zI l l'=true:=by rw[HE.out,List.drop_length,H3.out,List.drop_length];rfl
   have HR:=ah hr;clear hr
   go_wp2
   go_ret
   exact⟨by rw[HR.out];rfl,HK.out⟩
def I64(k:Int):Prop:=(Lit.int .i64 k).wf=true
theorem jy:Keyed Tryz.prog 3:=int_keyed Tryz.underlying3
theorem pF{k:Int}(h:I64 k):keyOf Tryz.prog 3 (.int .i64 k)=some (.int .i64 k):=keyOf_int_mk Tryz.underlying3 h
def bJ(w:World)(b n:Nat)(s:Int->Bool):Prop:=
 ∃D:DataW Unit,w.ownsMap Tryz.prog 3 (plainElem Tryz.prog 4) b n D/\∀k,I64 k->D.atKey (.int .i64 k) (.lit (.bool false))=.lit (.bool (s k))
theorem bJ.lt{w:World}{b n:Nat}{s:Int->Bool}(h:bJ w b n s):b<w.heap.size:=by
 obtain⟨D,h,_⟩:=h
 exact h.lt
theorem bJ.kept{F:Nat->Prop}{w w':World}{b n:Nat}{s:Int->Bool}(h:bJ w b n s)(hk:Kept F w w')(hf:¬F b):bJ w' b n s:=by
 obtain⟨D,ho,hD⟩:=h
 have hlt:=ho.lt
 obtain⟨es,clock,hb,hF,hs,e⟩:=ho
 exact⟨D,⟨es,clock,(hk.block b hlt hf).trans hb,hF,hs,e⟩,hD⟩
theorem bJ.made(w:World):bJ (w.alloc (.map #[] 0)) w.heap.size 0 (fun _=>false):=
 ⟨_,World.ownsMap_made w _ _ _,fun k hk=>rfl⟩
theorem bJ.look{w:World}{b n:Nat}{s:Int->Bool}(h:bJ w b n s){k:Int}(hk:I64 k):
  (Instr.lookup 62 (.map (some b)) (.int .i64 k) false).run Tryz.prog w=.ok (.bool (s k)) w:=by
 obtain⟨D,ho,hD⟩:=h
 obtain⟨v,ps,hrun,hv⟩:=ho.lookup jy Tryz.underlying62 (z:=.bool false) (by rfl) (zd:=.lit (.bool false)) (zp:=[]) (plainElem_bool Tryz.underlying4 false) (pF hk)
 rw[hD k hk]at hv
 unfold plainElem at hv
 rw[Tryz.underlying4]at hv
 rw[hrun]
 cases v<;>simp at hv
 rw[hv.1]
theorem bJ.store{w:World}{b n:Nat}{s:Int->Bool}(h:bJ w b n s)(hn:n<maxLen){x:Int}(hx:I64 x):
  ∃w',(Instr.mapUpdate 62 (.map (some b)) (.int .i64 x) (.bool true)).run Tryz.prog w=.ok () w'/\bJ w' b (n+1) (fun y=>decide (y=x)||s y)/\Kept (fun i=>i=b) w w':=by
 obtain⟨D,ho,hD⟩:=h
 obtain⟨w',hrun,ho',hg⟩:=ho.update jy Tryz.underlying62 hn (pF hx) (plainElem_bool Tryz.underlying4 true)
 refine⟨w',hrun,⟨_,ho',?_⟩,(Kept.refl _ _).grownBy hg fun i hi=>by injection hi with hi;exact .inl hi.symm⟩
 intro y hy
 have hm:IsMap D:=ho.isMap
 have hl:WideAt.IsKeyLit (.int .i64 x):=by trivial
 by_cases e:y=x
 ·subst e
  rw[atKey_put_same hm hl]
  simp
 ·have hne:(Lit.int .i64 y)≠ .int .i64 x:=fun h=>e (by injection h)
  rw[atKey_put_other hne,hD y hy]
  simp[e]
theorem bJ.ext{w:World}{b n:Nat}{s s':Int->Bool}(h:bJ w b n s)(e:∀k,s k=s' k):bJ w b n s':=by
 obtain rfl:s=s':=funext e
 exact h
theorem bJ.ne{w:World}{b n g:Nat}{s:Int->Bool}{t:TypeId}{cs:Array Value}(h:bJ w b n s)(hg:Has w g t cs):b≠g:=by
 rintro rfl
 obtain⟨D,⟨es,clock,hb,_⟩,_⟩:=h
 unfold Has at hg
 rw[hg]at hb
 cases hb
theorem set_any(w:World)(A:Option Addr)(c:Nat)(l:List Int)(hl:Src w 1 A l.length (ints l))(hlen:l.length<=1000000)(hi64:∀x∈l,I64 x):
  Calls Tryz.prog 253 #[.slice A l.length c] w fun e w'=>(∃b,e=.returned (.map (some b))/\bJ w' b l.length (inB l)/\w.heap.size<=b)/\Kept aj w w':=by
 have HL:=ah hl;clear hl
 have HI:=ah hi64;clear hi64
 have HM:=ah (bJ.made w)
 have hmm:= @run_makeMap Tryz.prog
 go_enter Tryz.func253,Tryz.ntmps253
 go_wp2_with fail
 go_loopw [9] (fun v9 wr=>∃i:Nat,i<=l.length/\v9=.int .i64 i/\bJ wr w.heap.size i (inB (l.take i))/\Kept aj w wr) (fun v9 _=>l.length-(intOf v9).toNat)
 case atStart=>exact⟨0,Nat.zero_le _,rfl,HM.out.ext (fun k=>rfl),(Kept.refl _ _).alloc _⟩
 case round=>
  obtain⟨i,hi,rfl,hs,hk⟩:=hrel
  have hsz:=hs.lt
  have HK:=ah hk;clear hk
  by_cases hil:i<l.length
  ·obtain⟨x,hx⟩:∃x,l[i]? =some x:=⟨_,List.getElem?_eq_getElem hil⟩
   obtain⟨ad,hA,had,d0⟩:=o7 (HL.out.kept HK.out (fun _ _ x=>x)) (by omega) i x hx
   subst hA
   obtain⟨w2,hst,hs2,hk2⟩:=hs.store (by unfold maxLen;omega) (HI.out x (List.mem_of_getElem? hx))
   have hs3:=hs2.ext (s':=inB (l.take (i+1))) (fun k=>by
    unfold inB
    rw[take_snoc hx]
    simp only[List.contains_append]
    by_cases e:k=x<;>simp[e])
   have hk3:Kept aj w w2:=HK.out.trans hk2 (fun k e=> .inr (by omega))
   have kD:=ah hs3;clear hs3 hs2 hs hk2 hx
   have bf:=ah hk3;clear hk3
   go_wp2
   go_roundw
   case rel=>exact⟨i+1,by omega,by go_num,kD.out,bf.out⟩
   case measure=>simp[intOf];omega
  ·obtain rfl:i=l.length:=by omega
   rw[List.take_length]at hs
   have HS:=ah hs;clear hs
   go_wp2
   go_ret
   exact⟨⟨_,rfl,HS.out,Nat.le_refl _⟩,HK.out⟩
theorem OT(W:World)(B1 B2 b1 b2 n1 n2:Nat)(g t:List Int)(x:Mem)(hx:I64 x.1)(h1:Has W B1 62 #[.map (some b1)])(h2:Has W B2 62 #[.map (some b2)])
  (s1:bJ W b1 n1 (inB g)) (s2:bJ W b2 n2 (inB t)):
  Calls Tryz.prog 255 #[iJ x,.pointer (some ⟨B1,0,none⟩),.pointer (some ⟨B2,0,none⟩)] W fun e w'=>e=.returned (.bool (isFirst g t x))/\Kept aj W w':=by
 have hlt1:=h1.lt
 have hlt2:=h2.lt
 have hne1:B1≠W.heap.size:=by omega
 have hne2:B2≠W.heap.size:=by omega
 have c1:∀o,(W.alloc o).cell? ⟨B1,0,none⟩=some (.map (some b1)):=fun o=>(h1.alloc o).cell 0
 have c2:∀o,(W.alloc o).cell? ⟨B2,0,none⟩=some (.map (some b2)):=fun o=>(h2.alloc o).cell 0
 have l1:=fun o=>(s1.kept ((Kept.refl aj W).alloc o) (fun x=>x)).look hx
 have l2:=fun o=>(s2.kept ((Kept.refl aj W).alloc o) (fun x=>x)).look hx
 have hf:=Ox g t x
 obtain⟨i1,hi1⟩:∃b,inB g x.1=b:=⟨_,rfl⟩
 obtain⟨i2,hi2⟩:∃b,inB t x.1=b:=⟨_,rfl⟩
 rw[hi1]at l1 hf
 rw[hi2]at l2 hf
 rw[hf]
 clear h1 h2 s1 s2 hlt1 hlt2 hf hi1 hi2 hx
 obtain⟨x1,x2⟩:=x
 unfold iJ
 dsimp only at l1 l2⊢
 cases i1<;>cases i2
 all_goals
  go_enter Tryz.func255,Tryz.ntmps255
  go_wp2
  go_ret
  exact⟨rfl,(Kept.refl _ _).alloc _⟩
theorem RF(W:World)(B1 B2 b1 b2 n1 n2:Nat)(g t:List Int)(x:Mem)(hx:I64 x.1)(h1:Has W B1 62 #[.map (some b1)])(h2:Has W B2 62 #[.map (some b2)])
  (s1:bJ W b1 n1 (inB g)) (s2:bJ W b2 n2 (inB t)):
  Calls Tryz.prog 256 #[iJ x,.pointer (some ⟨B1,0,none⟩),.pointer (some ⟨B2,0,none⟩)] W fun e w'=>e=.returned (.bool (uh g t x))/\Kept aj W w':=by
 have hlt1:=h1.lt
 have hlt2:=h2.lt
 have hne1:B1≠W.heap.size:=by omega
 have hne2:B2≠W.heap.size:=by omega
 have c1:∀o,(W.alloc o).cell? ⟨B1,0,none⟩=some (.map (some b1)):=fun o=>(h1.alloc o).cell 0
 have c2:∀o,(W.alloc o).cell? ⟨B2,0,none⟩=some (.map (some b2)):=fun o=>(h2.alloc o).cell 0
 have l1:=fun o=>(s1.kept ((Kept.refl aj W).alloc o) (fun x=>x)).look hx
 have l2:=fun o=>(s2.kept ((Kept.refl aj W).alloc o) (fun x=>x)).look hx
 have hf:=QN g t x
 obtain⟨i1,hi1⟩:∃b,inB g x.1=b:=⟨_,rfl⟩
 obtain⟨i2,hi2⟩:∃b,inB t x.1=b:=⟨_,rfl⟩
 rw[hi1]at l1 hf
 rw[hi2]at l2 hf
 rw[hf]
 clear h1 h2 s1 s2 hlt1 hlt2 hf hi1 hi2 hx
 obtain⟨x1,x2⟩:=x
 unfold iJ
 dsimp only at l1 l2⊢
 cases i1<;>cases i2
 all_goals
  go_enter Tryz.func256,Tryz.ntmps256
  go_wp2
  go_ret
  exact⟨rfl,(Kept.refl _ _).alloc _⟩
theorem pick_any(w:World)(A:Option Addr)(c:Nat)(l:List Mem)(p:Mem->Bool)(g:Nat)(lb:Array Value)(hl:Src w 2 A l.length (aS l))(hlen:l.length<=1000)
  (eg:∀args w,(callFunc g args).run Tryz.prog w=.ok (.enter g args) w) (hp:BR w g lb l p):
  Calls Tryz.prog 254 #[.slice A l.length c,.func (.func g) #[] lb] w fun e w'=>(∃O n oc,e=.returned (.slice O n oc)/\bT w.heap.size w' O n oc (l.filter p))/\Kept aj w w':=by
 have HL:=ah hl;clear hl
 have HP:=ah hp;clear hp
 go_enter Tryz.func254,Tryz.ntmps254
 go_wp2_with fail
 go_loopw [5,10] (fun v5 v10 wr=>∃(i:Nat) (O:Option Addr) (n oc:Nat),i<=l.length/\v10=.int .i64 i/\v5=.slice O n oc/\bT w.heap.size wr O n oc ((l.take i).filter p)/\Kept aj w wr) (fun _ v10 _=>l.length-(intOf v10).toNat)
 case atStart=>exact⟨0,none,0,0,Nat.zero_le _,rfl,rfl,bT.nil _ _,Kept.refl _ _⟩
 case round=>
  obtain⟨i,O,n,oc,hi,rfl,rfl,hrow,hk⟩:=hrel
  have ady:n<=1000:=by have h0:=hrow.1;have:=List.length_filter_le p (l.take i);have:=List.length_take_le i l;omega
  have iI:=ah hrow;clear hrow
  have HK:=ah hk;clear hk
  by_cases hil:i<l.length
  ·obtain⟨m,hm⟩:∃m,l[i]? =some m:=⟨_,List.getElem?_eq_getElem hil⟩
   obtain⟨ad,hA,had,d0,d1⟩:=ig (HL.out.kept HK.out (fun _ _ x=>x)) (by omega) i m hm
   subst hA
   obtain⟨wo,hwo⟩:∃wo:World,wo=wr:=⟨_,rfl⟩
   subst hwo
   have hcall:=fun o=>HP.out (wo.alloc o) m (HK.out.alloc o) (List.mem_of_getElem? hm)
   have Yj:=fun h=>Ov (p:=p) hm h
   have hfn:=fun h=>QM (p:=p) hm h
   have hnm:=Has.new wo 53 #[.int .i64 m.1,.int .i64 m.2]
   obtain⟨b,hb⟩:∃b,p m=b:=⟨_,rfl⟩
   rw[hb]at hcall Yj hfn
   clear hm hb
   obtain⟨m1,m2⟩:=m
   unfold iJ at hcall
   dsimp only at d0 d1 hcall hnm
   have HC:=ah hcall;clear hcall
   have Nz:=ah hnm;clear hnm
   have hS:Hid (n+1<=maxLen):=ah (by unfold maxLen;omega)
   have hS2:Hid ((n+1)*16<=140737488355328):=ah (by omega)
   cases b
   ·have hf0:=hfn rfl
    have HF:=ah hf0;clear hf0 hfn Yj
    go_wp2_with fail
    refine(HC.out _).mono ?_
    rintro e w2 ⟨rfl,hk2⟩
    have hk3:=(HK.out.alloc _).then hk2
    have hr3:=iI.out.kept (((Kept.refl _ _).alloc _).then hk2)
    have bf:=ah hk3;clear hk3 hk2
    have HR3:=ah hr3;clear hr3
    go_wp2
    go_roundw
    case rel=>exact⟨i+1,O,n,oc,by omega,by go_num,rfl,by rw[HF.out];exact HR3.out,bf.out⟩
    case measure=>simp[intOf];omega
   ·have hf0:=Yj rfl
    have HF:=ah hf0;clear hf0 hfn Yj
    go_wp2_with fail
    refine(HC.out _).mono ?_
    rintro e w2 ⟨rfl,hk2⟩
    have hk3:=(HK.out.alloc _).then hk2
    have hr3:=iI.out.kept (((Kept.refl _ _).alloc _).then hk2)
    have nJ:=Nz.out.kept hk2 (fun x=>x)
    have c0:w2.cell? ⟨wo.heap.size,0,none⟩=some (.int .i64 m1):=nJ.cell 0
    have c1:w2.cell? ⟨wo.heap.size,1,none⟩=some (.int .i64 m2):=nJ.cell 1
    have bf:=ah hk3;clear hk3 hk2 nJ
    have HR3:=ah hr3;clear hr3
    go_wp2_with (at_builtin;refine aI ng (.tmp 17) (.tmp 19) rfl rfl (Value.slice O n oc) rfl ((HR3.out.kept ((Kept.refl _ _).alloc _)).2.1) 1 rfl (Src.bW (m:=1) (cs:=#[.int .i64 m1,.int .i64 m2]) (Has.bP _ 53 _ (by simp)) rfl) (by intro u hu;simp at hu;rcases hu with rfl|rfl<;>rfl) hS.out hS2.out ?_;intro O3 zN w9 ho3 hg3 wF)
    have RG:=bf.out.size
    have hn3:bT w.heap.size w9 O3 (n+1) zN ((l.take i).filter p++[(m1,m2)]):=(HR3.out.kept ((Kept.refl _ _).alloc _)).snoc (by simp;omega) ho3 wF
    have hk9:Kept aj w w9:=(bf.out.alloc _).grown hg3 (fun k hk=> .inr (HR3.out.2.2 k hk))
    rw[<-HF.out]at hn3
    clear ho3 hg3 wF
    have kY:=ah hn3;clear hn3
    have qA:=ah hk9;clear hk9
    go_wp2
    go_roundw
    case rel=>exact⟨i+1,O3,n+1,zN,by omega,by go_num,rfl,kY.out,qA.out⟩
    case measure=>simp[intOf];omega
  ·obtain rfl:i=l.length:=by omega
   have hr:=iI.out
   rw[List.take_length]at hr
   have HR:=ah hr;clear hr
   go_wp2
   go_ret
   exact⟨⟨O,n,oc,rfl,HR.out⟩,HK.out⟩
end aP
end Go.Proofs.YtolkgbafebehfaaGreat

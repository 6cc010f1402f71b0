/- Part 21 of what the proof needs. -/
import Derived.Test.YtfjdpbbgfjhnlaaGreatMK19
import Derived.Shelf.Slices.Cells
import Derived.Shelf.Slices.Clone
set_option linter.unusedSimpArgs false
set_option linter.unusedVariables false
set_option maxHeartbeats 32000000
set_option maxRecDepth 100000
namespace Go.Proofs.YtfjdpbbgfjhnlaaGreat
open Go.RowKit
set_option maxRecDepth 100000
namespace Wl
open aH Fr Vn Ops
section
variable{F:Nat->Prop}{w:World}{g gw n:Nat}{m:aH.Safe}{ps:List aH.Pc}{aU aK first:Int}{R:St}{T:List (List UInt8)}
def XR(w:World)(g:Nat)(first:Int)(R:St)(e:Ending)(w':World):Prop:=
 ∃gw A c,e=.returned (.tuple #[.pointer (some ⟨gw,0,none⟩),.slice A (texts R).length c,.int .i64 0])/\Dx w' gw g (first+lastOf R)/\w.heap.size<=gw/\
  aF 9 1 w.heap.size w' A (texts R).length c (bZ (texts R))/\Below w.heap.size w w'
def XT(w:World)(first:Int)(R:St)(e:Ending)(w':World):Prop:=
 ∃A c,e=.returned (.tuple #[.slice A (texts R).length c,.int .i64 (first+lastOf R)])/\aF 9 1 w.heap.size w' A (texts R).length c (bZ (texts R))/\Below w.heap.size w w'
structure Fits(n:Nat)(m:aH.Safe)(ps:List aH.Pc):Prop where
 n:n<=100000
 len:ps.length<100000
 file:∀f,(dN m f).size<=100000
 pc:∀p∈ps,p.2.size<=65549/\1<=p.1/\p.1<=1073741824
theorem aa1{ps:List aH.Pc}{k:Nat}(h:∀p∈ps,p.2.size<=k):total ps<=ps.length*k:=by
 induction ps with
 |nil=>simp[total]
 |cons p ps ih=>
  have h1:=h p (by simp)
  have h2:=ih (fun q hq=>h q (by simp[hq]))
  rw[total_cons,List.length_cons,Nat.succ_mul]
  omega
theorem Fits.total(h:Fits n m ps):aH.total ps<=6554900000:=by
 have h1:=aa1 (k:=65549) (fun p hp=>(h.pc p hp).1)
 have:=h.len
 omega
theorem Fits.i64(h:Fits n m ps):∀p∈ps,I64 p.1:=fun p hp=>by have:=h.pc p hp;exact fZ (by omega) (by omega)
theorem IK(h:Log first R T m ps)(hf1:1<=first)(hf2:first<=1073741824)(hl:(cur R T).length<=100000):
  ∃ls:List Sg,ls.map (·.1)=jH (bW m ps) (dataOf m ps) (cur R T).length first/\dU ls=texts (cur R T)/\yQ first ls=first+lastOf (cur R T)/\ls.length=(cur R T).length:=by
 obtain⟨ls,h3,h4,h5,h6⟩:=SI hf1 (by omega) (OH h.ok h.T) (by omega)
 refine⟨ls,h3.trans h.aaX.1.symm,h4,?_,h6⟩
 by_cases hc:cur R T=[]
 ·rw[hc]at h6⊢
  obtain rfl:ls=[]:=List.eq_nil_of_length_eq_zero h6
  simp[yQ,lastOf]
 ·exact h5 _ hc
theorem agI(hd:aX w g F n m ps aU aK)(h:Log first R T m ps)(hf:Fits n m ps)(hf1:1<=first)(hf2:first<=1073741824)(hl:(cur R T).length<=100000):
  Calls Tryz.prog 136 #[.pointer (some ⟨g,0,none⟩),.int .i64 first] w (XT w first (cur R T)):=by
 obtain⟨ls,h3,h4,h5,h6⟩:=IK h hf1 hf2 hl
 have ht:=hf.total
 refine(Cm w g n F m ps aU aK first (cur R T).length ls hd hf.i64 hf.n (by have:=hf.len;omega) (fun f=>by have:=hf.file f;omega) hf1 hf2 (by omega) h.aaX.2 h3 (by omega)).mono ?_
 rintro e w' ⟨A,c,h7,h8,h9⟩
 rw[h4]at h7 h8
 rw[h5]at h7
 exact⟨A,c,h7,h8,h9⟩
theorem KT(hd:aX w g F n m ps aU aK)(h:Log first R T m ps)(hf:Fits n m ps)(hf1:1<=first)(hf2:first<=1073741824)(hl:(cur R T).length<=100000):
  Calls Tryz.prog 78 #[.pointer (some ⟨g,0,none⟩),.int .i64 first] w (XR w g first (cur R T)):=by
 obtain⟨ls,h3,h4,h5,h6⟩:=IK h hf1 hf2 hl
 have ht:=hf.total
 refine(open_any w g n F m ps aU aK first (cur R T).length ls hd hf.i64 hf.n (by have:=hf.len;omega) (fun f=>by have:=hf.file f;omega) hf1 hf2 (by omega) h.aaX.2 h3 (by omega)).mono ?_
 rintro e w' ⟨gw,A,c,h7,h8,h9,h10,h11⟩
 rw[h4]at h7 h10
 rw[h5]at h8
 exact⟨gw,A,c,h7,h8,h9,h10,h11⟩
def aa2(w:World)(g gw:Nat)(F:Nat->Prop)(n:Nat)(m:aH.Safe)(ps:List aH.Pc)(aU aK first:Int)(R:St)(T:List (List UInt8))(e:Ending)(w':World):Prop:=
 e=.returned (.int .i64 0)/\∃F',aX w' g F' n m ps aU aK/\ji w F F'/\Dx w' gw g (first+lastOf (cur R T))/\Kept (fun k=>F k\/k=gw) w w'
theorem Gh(hd:aX w g F n m ps aU aK)(hw:Dx w gw g (first+lastOf (cur R T)))(h:Log first R T m ps)(hf:Fits n m ps)(hf1:1<=first)(hf2:first+lastOf (cur R T)<=1073741824)(s:ByteArray)(hs:s.size<=65536):
  Calls Tryz.prog 115 #[.pointer (some ⟨gw,0,none⟩),.string s] w (aa2 w g gw F n m (ps++[(first+lastOf (cur R T),bG (bI (bl s)))]) aU aK first R (T++[bl s])):=by
 have ht:=hf.total
 refine(UD hd hw s hs (by omega) hf2 hf.len (by have:=hf.file (first+lastOf (cur R T));omega)).mono ?_
 rintro e w' ⟨h1,F',h2,h3,h4,h5⟩
 refine⟨h1,F',h2,h3,?_,h5⟩
 have h6:=(h.append (t:=bl s) (by rw[bJ];exact hs)).file (lastOf (cur R T))
 rw[h6.2,lQ,OG]at h4
 rw[OG,aaY]
 split
 ·rename_i h7
  rw[if_pos h7]at h4
  rw[show first+((lastOf (cur R T)+1:Nat):Int)=first+(lastOf (cur R T):Int)+1 by omega]
  exact h4
 ·rename_i h7
  rw[if_neg h7]at h4
  exact h4
theorem Fits.append(h:Fits n m ps){f:Int}{t:List UInt8}(hl:ps.length+1<100000)(h1:1<=f)(h2:f<=1073741824)(ht:t.length<=65536):Fits n m (ps++[(f,bG (bI t))]):=
 ⟨h.n,by simp;omega,h.file,fun p hp=>by
  rcases List.mem_append.1 hp with hp|hp
  ·exact h.pc p hp
  ·simp at hp
   subst hp
   dsimp only
   rw[lQ]
   exact⟨CG ht,h1,h2⟩⟩
end
theorem SK(first:Int):Log first [] [] (fun _=>none) []:=⟨fun i=>rfl,rfl,(fun f hf=>by cases hf),(fun t ht=>by cases ht)⟩
end Wl
end Go.Proofs.YtfjdpbbgfjhnlaaGreat
namespace Go.Proofs.YtfjdpbbgfjhnlaaGreat
open Go.Shelf Go.Sort Go.RowKit Go.Proofs
set_option maxRecDepth 100000
namespace Rv
def lays112_ren:Go.Shelf.Ren:=⟨fun|112=>73|n=>n,fun|28=>61|3=>3|4=>4|0=>0|n=>n,fun|n=>n⟩
theorem lays112:Go.Proofs.Lays.n112 Tryz.prog lays112_ren:={
 mixed:=by kernel_rfl
 f112:=Tryz.func73.trans (congrArg some (by kernel_rfl))
 t0:=Tryz.underlying0
 a0:=Tryz.isAgg0
 z0:=Tryz.sizeOf0
 v0:=Tryz.zeroValue0
 t3:=Tryz.underlying3
 a3:=Tryz.isAgg3
 z3:=Tryz.sizeOf3
 v3:=Tryz.zeroValue3
 t4:=Tryz.underlying4
 a4:=Tryz.isAgg4
 z4:=Tryz.sizeOf4
 v4:=Tryz.zeroValue4
 t28:=Tryz.underlying61
 a28:=Tryz.isAgg61
 z28:=Tryz.sizeOf61
 v28:=Tryz.zeroValue61}
theorem MN(b off n c:Nat)(zs:List Int)(w:World)(hz:n<=zs.length)(hbig:n<=9223372036854775807)(hc:∀j,j<zs.length->w.cell? ⟨b,off+j,none⟩=some (.int .i64 (zs.getD j 0)))(hf:∀j,j<n->w.frozen? ⟨b,off+j,none⟩=false):
  Calls Tryz.prog 73 #[.slice (some ⟨b,off,none⟩) n c] w fun e w'=>e=.returned (.tuple #[])/\∃q,w'=(w.drewN q).setCells b off ((zs.take n).reverse.map (Value.int .i64)):=Any.slices_Reverse_int_cells lays112 b off n c zs w hz hbig hc hf
theorem reverse_empty(a:Option Addr)(cap:Nat)(w:World):
  Calls Tryz.prog 73 #[.slice a 0 cap] w fun e w'=>e=.returned (.tuple #[])/\w'=w:=Any.slices_Reverse_int_empty lays112 a cap w
end Rv
end Go.Proofs.YtfjdpbbgfjhnlaaGreat
namespace Go.Proofs.YtfjdpbbgfjhnlaaGreat
open Go.RowKit
set_option maxRecDepth 100000
namespace Pt
open aH Fr Vn Ops Wl
def vN(t:List UInt8):Option Nat:=if t.head? =some 80 then (match get t 1 with| .ok (n,j)=>if j=t.length/\n<=1073741824 then some n else none| .error _=>none)else none
def JU(o:Option Nat):Value:=.tuple #[.int .i64 (o.getD 0:Nat),.bool o.isSome]
theorem rD(s:ByteArray):(s.toList==[])=decide (s.size=0):=by
 rw[ByteArray.toList_eq,<-bJ]
 cases h:bl s<;>simp[h]
theorem adz(s:ByteArray)(h:0<s.size):(bl s).head? =some s[0]:=by
 have h2:0<(bl s).length:=by rw[bJ];exact h
 rw[List.head?_eq_getElem?,List.getElem?_eq_getElem h2]
 rfl
theorem count_any(w:World)(s:ByteArray)(hs:s.size<=1000000000):Calls Tryz.prog 133 #[.string s] w fun e w'=>e=.returned (JU (vN (bl s)))/\w=w':=by
 have he:=rD s
 by_cases hz:s.size=0
 ·rw[decide_eq_true hz]at he
  have hc:vN (bl s)=none:=by
   have:bl s=[]:=List.eq_nil_of_length_eq_zero (by rw[bJ];exact hz)
   rw[this];rfl
  rw[hc]
  clear hc hz
  go_enter Tryz.func133,Tryz.ntmps133
  go_wp2
  go_ret2
  exact⟨rfl,rfl⟩
 ·rw[decide_eq_false hz]at he
  have hpos:0<s.size:=by omega
  have hhd:=adz s hpos
  have hlt:s[0].toNat<256:=UInt8.toNat_lt _
  by_cases h80:s[0]=80
  ·have hq:((s[0].toNat:Int)==80)=true:=by rw[h80];rfl
   have hq2:((s[0].toNat:Int) !=80)=false:=by rw[h80];rfl
   have hg:=BZ s 1 (by omega) (by unfold maxLen;omega) w
   have hc:vN (bl s)=(match get (bl s) 1 with| .ok (n,j)=>if j=s.size/\n<=1073741824 then some n else none| .error _=>none):=by
    unfold vN
    rw[hhd,h80,if_pos rfl,bJ]
   rw[hc]
   rcases zB (bl s) 1 with⟨e,hge,Xy⟩|⟨n,j,hgo⟩
   ·rw[hge]
    rw[hge]at hg
    unfold GI at hg
    dsimp only at hg⊢
    have hne:((e:Int) !=0)=true:=by rcases Xy with rfl|rfl<;>rfl
    have HG:=ah hg
    clear hg hc hhd hge Xy h80
    go_enter Tryz.func133,Tryz.ntmps133
    go_wp2_with fail
    refine HG.out.mono ?_
    rintro e' w' ⟨rfl,rfl⟩
    go_wp2
    go_ret2
    exact⟨rfl,rfl⟩
   ·rw[hgo]
    rw[hgo]at hg
    unfold GI at hg
    dsimp only at hg⊢
    obtain⟨hj1,hj2,hj3⟩:=xY hgo
    rw[bJ]at hj2
    have HG:=ah hg
    clear hg hc hhd hgo h80
    by_cases hjs:j=s.size
    ·by_cases hn:n<=1073741824
     ·rw[if_pos ⟨hjs,hn⟩]
      subst hjs
      have hn':¬(1073741824:Int)<(n:Int):=by omega
      go_enter Tryz.func133,Tryz.ntmps133
      go_wp2_with fail
      refine HG.out.mono ?_
      rintro e' w' ⟨rfl,rfl⟩
      go_wp2
      go_ret2
      exact⟨rfl,rfl⟩
     ·rw[if_neg (fun h=>hn h.2)]
      subst hjs
      have hn':(1073741824:Int)<(n:Int):=by omega
      go_enter Tryz.func133,Tryz.ntmps133
      go_wp2_with fail
      refine HG.out.mono ?_
      rintro e' w' ⟨rfl,rfl⟩
      go_wp2
      go_ret2
      exact⟨rfl,rfl⟩
    ·rw[if_neg (fun h=>hjs h.1)]
     have hjn:((j:Int) !=(s.size:Int))=true:=by simp;omega
     clear hjs
     go_enter Tryz.func133,Tryz.ntmps133
     go_wp2_with fail
     refine HG.out.mono ?_
     rintro e' w' ⟨rfl,rfl⟩
     go_wp2
     go_ret2
     exact⟨rfl,rfl⟩
  ·have agW:s[0].toNat≠80:=fun h=>h80 (UInt8.toNat_inj.1 (by rw[h];rfl))
   have hq2:((s[0].toNat:Int) !=80)=true:=by simp;omega
   have hc:vN (bl s)=none:=by
    unfold vN
    rw[hhd,if_neg (fun h=>h80 (by injection h))]
   rw[hc]
   clear hc hhd h80 agW
   go_enter Tryz.func133,Tryz.ntmps133
   go_wp2
   go_ret2
   exact⟨rfl,rfl⟩
end Pt
end Go.Proofs.YtfjdpbbgfjhnlaaGreat
namespace Go.Proofs.YtfjdpbbgfjhnlaaGreat
open Go.RowKit Go.Maps
set_option maxRecDepth 100000
namespace aH
def JV(m:Safe)(f:Int):Safe:=fun x=>if x=f then none else m x
theorem iq.dropped{w':World}{b n:Nat}{m:Safe}{D:DataW Unit}(hD:∀k,I64 k->has D (.int .i64 k)=(m k).isSome/\D.atKey (.int .i64 k) (.lit (.string []))=.lit (.string (dN m k).data.toList)){k:Int}
  (ho:w'.ownsMap Tryz.prog 3 (plainElem Tryz.prog 9) b n (D.del (.int .i64 k))):iq w' b n (JV m k):=by
 refine⟨_,ho,?_⟩
 intro i hi
 by_cases e:i=k
 ·subst e
  rw[has_del_same,atKey_del_same]
  simp[JV,dN]
 ·have hne:(Lit.int .i64 i)≠ .int .i64 k:=fun h=>e (by injection h)
  rw[has_del_other hne,atKey_del_other hne]
  have:=hD i hi
  simpa [JV,dN,e]using this
theorem UE(w:World)(A:Option Addr)(c:Nat)(f:Value):Calls Tryz.prog 251 #[.slice A 0 c,f] w fun e w'=>e=.returned (.int .i64 (-1))/\w=w':=by
 go_enter Tryz.func251,Tryz.ntmps251
 go_wp2_with fail
 refine wp_loop_rounds 1 ?_;rw[rounds_succ]
 go_wp2
 go_ret
 exact⟨rfl,rfl⟩
theorem UF(w:World)(A:Option Addr)(c:Nat)(f:Value):Calls Tryz.prog 216 #[.slice A 0 c,f] w fun e w'=>e=.returned (.slice A 0 c)/\w=w':=by
 go_enter Tryz.func216,Tryz.ntmps216
 go_wp2_with fail
 refine(UE _ _ _ _).mono ?_
 rintro e w' ⟨rfl,rfl⟩
 go_wp2
 go_ret
 exact⟨rfl,rfl⟩
variable{F:Nat->Prop}{w:World}{g n:Nat}{m:Safe}{ps:List Pc}{aU aK:Int}
theorem aa3(h:aX w g F n m [] aU aK)(f:Int)(hf:I64 f)(hn:n<=100000)(hm:bW m [] f=true):
  Calls Tryz.prog 135 #[.pointer (some ⟨g,0,none⟩),.int .i64 f] w fun e w'=>e=.returned (.int .i64 0)/\aX w' g F n (JV m f) [] aU aK/\Kept F w w':=by
 have hmf:∀(fn:Fn) (first cap:Array Value) (w:World),(Instr.makeFunc fn first cap).run Tryz.prog w=.ok (.func fn first cap) w:=fun _ _ _ _=>rfl
 obtain⟨w1,hw1⟩:∃w1,w.alloc (.cells #[.int .i64 f] 3)=w1:=⟨_,rfl⟩
 have hk1:Kept aj w w1:=by rw[<-hw1];exact(Kept.refl _ _).alloc _
 have hb1:Has w1 w.heap.size 3 #[.int .i64 f]:=by rw[<-hw1];exact Has.new _ _ _
 have hd1:aX w1 g F n m [] aU aK:=h.kept hk1 (fun _ _ z=>z)
 have hno:=dR hd1
 have hfi:=fun W (hW:Kept aj w1 W)=>pX (hd1.kept hW (fun _ _ z=>z)) (fun p hp=>by cases hp) hn (by decide)
 have c3:w1.cell? ⟨w.heap.size,0,none⟩=some (.int .i64 f):=hb1.cell 0
 have HW1:=ah hw1;have jl:=ah hno;have pY:=ah hfi;have HM:=ah hm;have HB1:=ah hb1;have fF:=ah hk1;have HD1:=ah hd1;have HF:=ah hf
 clear hno hfi hm hb1 hk1 hd1 hw1 h hf
 go_enter Tryz.func135,Tryz.ntmps135
 go_wp2_with fail
 rw[HW1.out]
 refine jl.out.mono ?_
 rintro e w' ⟨rfl,rfl⟩
 go_wp2_with fail
 go_region_held3 (fun W=>W.cell? ⟨w.heap.size,0,none⟩=some (.int .i64 f)) (first|exact c3|exact q4|(simp[go_sem,c3];done))
  (first
   |(go_at_call 58;refine(pY.out _ (by(repeat'(first|(with_reducible first|exact ak|apply au|apply ay|apply aA|apply aB)|(right;simp;done))))).mono ?_;rintro e w4 ⟨fl,A,c,rfl,hfa,hown,hnew,hk4⟩;have hk5:Kept aj w1 w4:=Kept.then (by(repeat'(first|(with_reducible first|exact ak|apply au|apply ay|apply aA|apply aB)|(right;simp;done)))) hk4;have q4:=(HB1.out.kept hk5 (fun z=>z)).cell 0;have ql:=ah hown;have Eo:=ah hfa;clear hown hfa hnew)
   |(go_at_call 99;have hco:=yP.kP w4 A c fl f (Src.bC ql.out) (Nat.le_trans (fV ql.out).1 (fV ql.out).2);rw[yP.rO.2 ((Eo.out.mem f).2 ⟨HF.out,HM.out⟩)]at hco;refine hco.mono ?_;rintro e w5 ⟨rfl,rfl⟩;clear hco))
 clear c3
 have hd4:=HD1.out.kept hk5 (fun _ _ z=>z)
 obtain⟨mb,A0,c0',hF,hg,hm,ho⟩:=hd4
 have m0:w4.cell? ⟨g,0,none⟩=some (.map (some mb)):=hg.cell 0
 have hkd:Kept aj w4 w4.drew:=(Kept.refl _ _).drew
 obtain⟨D,hmo,hD⟩:=hm.kept hkd (fun z=>z)
 have hne:=hm.ne hg
 have hbr:∀k,(Value.slice A0 ([]:List Pc).length c0').ownBlock=some k->k≠mb:=fun k hk e=>(hm.Bg ho) (e▸hk)
 have hgl:=hg.lt
 have hb4:Has w4 w.heap.size 3 #[.int .i64 f]:=HB1.out.kept hk5 (fun z=>z)
 have hbm:mb≠w.heap.size:=hm.ne hb4
 have XU:=ah hF;have HG:=ah (hg.kept hkd (fun z=>z));have HO:=ah (aC ho hkd (fun _ _ z=>z));have HD:=ah hD;have HB4:=ah (hb4.kept hkd (fun z=>z));have cO:=ah hk5
 clear hF hg hm ho hD hk5 hb4 hkd
 go_wp2_with fail
 refine wp_region_still_tail 5 (by kernel_rfl) (by kernel_rfl) ?_
 simp only[List.take_succ_cons,List.take_zero,List.drop_succ_cons,List.drop_zero]
 change wpStill _ _ (World.drew w4) _ _ _
 repeat still_step
 refine wpStill_nil ?_
 change wpList _ _ _ _ _ (World.drew w4)
 go_wp2_with (at_delete;refine wpList_delete_own _ rfl _ _ 69 3 rfl 9 jL Tryz.underlying69 _ mb n D rfl hmo _ _ rfl (qB HF.out) ?_;intro w6 hown6 XV;have hkt:Kept (fun i=>i=mb) w4.drew w6:=((Kept.refl _ _).grownBy XV.grown (fun i hi=>by injection hi with hi;exact .inl hi.symm));have Eu:=HG.out.kept hkt (fun e=>hne e.symm);have d1:w6.cell? ⟨g,1,none⟩=some (.slice A0 0 c0'):=Eu.cell 1;have f1:=Eu.frozen 1;have HT:=ah hkt;have agX:=ah hown6;have HG6:=ah Eu;clear hkt hown6 XV Eu)
 refine(UF _ _ _ _).mono ?_
 rintro e w7 ⟨rfl,rfl⟩
 go_wp2
 go_ret
 have hks:Kept (fun k=>k=g) w6 (w6.setCell ⟨g,1,none⟩ (.slice A0 0 c0')):=(Kept.refl _ w6).put (.inl rfl)
 refine⟨rfl,⟨mb,A0,c0',XU.out,HG6.out.dB rfl,(iq.dropped HD.out agX.out).kept hks hne,?_⟩,?_⟩
 ·exact aC (aC HO.out HT.out (fun k hk e=>hbr k hk e)) hks (fun k hk e=>own_ne (aC HO.out HT.out (fun k hk e=>hbr k hk e)) HG6.out (by decide) (e▸hk))
 ·exact(((fF.out.then cO.out).drew.mono (fun _ z=>z.elim)).then (HT.out.mono (fun k hk=>(XU.out k).2 (.inr (.inl hk))))).put (.inl ((XU.out g).2 (.inl rfl)))
end aH
end Go.Proofs.YtfjdpbbgfjhnlaaGreat
namespace Go.Proofs.YtfjdpbbgfjhnlaaGreat
open Go.RowKit
set_option maxRecDepth 100000
namespace Pt
open aH Fr Vn Ops Wl
def tY(b:List UInt8):Option Nat:=match nextR b 0 with
 | .ok t _=>vN t
 | .bad _=>none
theorem XW{s:List UInt8}{i to:Nat}{t:List UInt8}(h:nextR s i=.ok t to):t.length<=s.length:=by
 unfold nextR at h
 split at h
 ·cases h
 ·split at h
  ·cases h
  ·split at h
   ·cases h
   ·split at h
    ·injection h with h3 h4
     rw[<-h3]
     simp only[List.length_take,List.length_drop]
     omega
    ·cases h
section
variable{F:Nat->Prop}{w:World}{g n:Nat}{m:aH.Safe}{ps:List aH.Pc}{aU aK:Int}
theorem KU(f:Int):(dataOf m ps f).size<=(dN m f).size+total ps:=by
 have:=IE f ps
 have e:(dataOf m ps f).size=(dN m f).size+(ofFile f ps).length:=by
  show((dN m f).data.toList++ofFile f ps).toArray.size=_
  rw[List.size_toArray,List.length_append,Array.length_toList]
  rfl
 omega
theorem CU(h:aX w g F n m ps aU aK)(f:Int)(hf:I64 f)(hlen:ps.length<=100000)(hsz:(dataOf m ps f).size<=1000000000)(hsz2:(dN m f).size+total ps<=140737488355328):
  Calls Tryz.prog 74 #[.pointer (some ⟨g,0,none⟩),.int .i64 f] w fun e w'=>e=.returned (JU (tY (bl (dataOf m ps f))))/\Kept aj w w':=by
 have hda:=yO h f hf hlen hsz2
 generalize dataOf m ps f=D at hda hsz⊢
 have hnx:=fun W=>next_any W D 0 (Nat.zero_le _) hsz
 unfold tY
 have Gg:=ah hda
 clear hda h hlen hsz2
 rcases hR:nextR (bl D) 0 with e0|⟨t,to⟩
 ·rw[hR]at hnx
  unfold zA at hnx
  have he0:((e0:Int) !=0)=true:=by have:=Eh hR;simpa using this
  dsimp only at hnx⊢
  have HN:=ah hnx
  clear hnx hR
  go_enter Tryz.func74,Tryz.ntmps74
  go_wp2_with fail
  refine Gg.out.mono ?_
  rintro e w1 ⟨rfl,hk1⟩
  go_wp2_with fail
  refine(HN.out _).mono ?_
  rintro e w2 ⟨rfl,hk2⟩
  have HK:=ah (hk1.then hk2);clear hk1 hk2
  go_wp2
  go_ret2
  exact⟨rfl,HK.out⟩
 ·rw[hR]at hnx
  unfold zA at hnx
  dsimp only at hnx⊢
  have hto:=B6 hR
  have hts:(bG t).size<=1000000000:=by
   rw[lQ]
   have:=XW hR
   rw[bJ]at this
   omega
  have hco:=fun W=>count_any W (bG t) hts
  rw[jd]at hco
  have HN:=ah hnx;have HC:=ah hco
  clear hnx hR hco hto hts
  obtain⟨o,ho⟩:∃o,vN t=o:=⟨_,rfl⟩
  rw[ho]at HC⊢
  unfold JU at HC⊢
  clear ho
  go_enter Tryz.func74,Tryz.ntmps74
  go_wp2_with fail
  refine Gg.out.mono ?_
  rintro e w1 ⟨rfl,hk1⟩
  go_wp2_with fail
  refine(HN.out _).mono ?_
  rintro e w2 ⟨rfl,hk2⟩
  have HK:=ah (hk1.then hk2);clear hk1 hk2
  go_wp2_with fail
  refine(HC.out _).mono ?_
  rintro e w3 ⟨rfl,rfl⟩
  go_wp2
  go_ret2
  exact⟨rfl,HK.out⟩
theorem Bi(h:aX w g F n m ps aU aK)(f:Int)(K:Nat)(hpi:∀p∈ps,I64 p.1)(hn:n<=100000)(hlen:ps.length<=100000)(hsz:∀x,(dN m x).size+total ps<=1000000000)(hf0:0<=f)(hfK:f+K<=1152921504606846976)
  (h1:∀j:Nat,j<K->bW m ps (f+1+j)=true/\tY (bl (dataOf m ps (f+1+j)))=none) (h2:bW m ps (f+1+K)=false\/∃c,tY (bl (dataOf m ps (f+1+K)))=some c):
  Calls Tryz.prog 77 #[.pointer (some ⟨g,0,none⟩),.int .i64 f] w fun e w'=>e=.returned (.int .i64 (f+1+K))/\Kept aj w w':=by
 have hfi:=pX h hpi hn hlen
 have hbe:=fun(x:Int) (hx:0<=x/\x<=2305843009213693952) (W:World) (hW:Kept aj w W)=>CU (h.kept hW (fun _ _ z=>z)) x (fZ hx.1 (by omega)) hlen (by have:=KU (m:=m) (ps:=ps) x;have:=hsz x;omega) (by have:=hsz x;omega)
 have pY:=ah hfi;have yN:=ah hbe;have H1:=ah h1;have H2:=ah h2
 clear hfi hbe h1 h2 hpi hn hlen hsz h
 go_enter Tryz.func77,Tryz.ntmps77
 go_wp2_with fail
 refine pY.out.mono ?_
 rintro e w1 ⟨fl,A,c,rfl,hfa,hown,hnew,hk1⟩
 have Eo:=ah hfa;have ql:=ah hown;have fF:=ah hk1
 clear hfa hown hnew hk1
 go_wp2_with fail
 go_loopw [6] (fun v6 wr=>∃j:Nat,j<=K/\v6=.int .i64 (f+1+j)/\Kept aj w1 wr) (fun v6 _=>(f+1+K-intOf v6).toNat)
 case atStart=>exact⟨0,Nat.zero_le _,by simp,Kept.refl _ _⟩
 case round=>
  obtain⟨j,hj,rfl,hk⟩:=hrel
  obtain⟨x,hx⟩:∃x,f+1+(j:Int)=x:=⟨_,rfl⟩
  have hx1:0<=x:=by omega
  have hx2:x<=2305843009213693952:=by omega
  rw[hx]
  have HX0:=ah hx
  have hsrc:Src wr 1 A fl.length (fl.map (Value.int .i64)):=(Src.bC ql.out).kept hk (fun _ _ z=>z)
  have hco:=yP.kP wr A c fl x hsrc (Nat.le_trans (fV ql.out).1 (fV ql.out).2)
  have hin:yP.inB fl x=bW m ps x:=by
   rw[Bool.eq_iff_iff,yP.rO,Eo.out.mem x]
   exact⟨fun h=>h.2,fun h=>⟨fZ hx1 (by omega),h⟩⟩
  rw[hin]at hco
  have HK:=ah hk
  have hbx:=yN.out x ⟨hx1,hx2⟩ wr (fF.out.then hk)
  clear hin hsrc hk
  by_cases hjK:j<K
  ·have h3:=H1.out j hjK
   rw[hx]at h3
   rw[h3.1]at hco
   rw[h3.2]at hbx
   have qK:=ah hco;have Dy:=ah hbx;have HX:=ah hx
   unfold JU at Dy
   clear hco hbx h3 hx
   go_wp2_with fail
   refine qK.out.mono ?_
   rintro e w2 ⟨rfl,rfl⟩
   go_wp2_with fail
   refine Dy.out.mono ?_
   rintro e w2 ⟨rfl,hk2⟩
   have aW:=ah (HK.out.then hk2)
   clear hk2
   go_wp2
   go_roundw
   case rel=>exact⟨j+1,by omega,by rw[<-HX.out];congr 1;omega,aW.out⟩
   case measure=>have:=HX.out;simp[intOf];omega
  ·obtain rfl:j=K:=by omega
   rcases H2.out with h3|⟨cc,h3⟩
   ·rw[hx]at h3
    rw[h3]at hco
    have qK:=ah hco
    clear hco hbx h3
    go_wp2_with fail
    refine qK.out.mono ?_
    rintro e w2 ⟨rfl,rfl⟩
    go_wp2
    go_ret
    exact⟨by rw[HX0.out];rfl,fF.out.then HK.out⟩
   ·rw[hx]at h3
    rw[h3]at hbx
    unfold JU at hbx
    have Dy:=ah hbx
    obtain⟨bb,hbb⟩:∃bb,bW m ps x=bb:=⟨_,rfl⟩
    rw[hbb]at hco
    have qK:=ah hco
    clear hco hbx h3 hbb
    cases bb
    ·go_wp2_with fail
     refine qK.out.mono ?_
     rintro e w2 ⟨rfl,rfl⟩
     go_wp2
     go_ret
     exact⟨by rw[HX0.out];rfl,fF.out.then HK.out⟩
    ·go_wp2_with fail
     refine qK.out.mono ?_
     rintro e w2 ⟨rfl,rfl⟩
     go_wp2_with fail
     refine Dy.out.mono ?_
     rintro e w2 ⟨rfl,hk2⟩
     have aW:=ah (HK.out.then hk2)
     clear hk2
     go_wp2
     go_ret
     exact⟨by rw[HX0.out];rfl,fF.out.then aW.out⟩
end
end Pt
end Go.Proofs.YtfjdpbbgfjhnlaaGreat

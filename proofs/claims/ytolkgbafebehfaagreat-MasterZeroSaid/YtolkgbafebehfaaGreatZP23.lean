/- Part 24 of what the proof needs. -/
import Derived.Test.YtolkgbafebehfaaGreatZP22
import Derived.RangeFuncNested
import Derived.RangeFuncBound
import Derived.Shelf.RegionOpen
import Derived.OwnWalkIn
import Derived.LoopNIn
import Derived.LoopIn
set_option linter.unusedSimpArgs false
set_option linter.unusedVariables false
set_option maxHeartbeats 32000000
set_option maxRecDepth 100000
namespace Go.Proofs.YtolkgbafebehfaaGreat
open Go.RowKit Go.Shelf
attribute [local go_sem] Oper.semAt_some
set_option maxRecDepth 100000
namespace Fr
open Vn Ops
def dQ(s:List UInt8):Nat->Nat->List jY
 |0,_=>[]
 |fuel+1,i=>if s.length<=i then []else match nextR s i with
  | .bad e=>[.bad e]
  | .ok t to=> .ok t to::dQ s fuel to
def aU(s:List UInt8):List jY:=dQ s (s.length+1) 0
theorem Jr{s:List UInt8}{i to:Nat}{t:List UInt8}(h:nextR s i=.ok t to):i<to/\to<=s.length:=by
 unfold nextR at h
 rcases AB s i with⟨e,he,_⟩|⟨n,j,hj⟩
 ·rw[he]at h;cases h
 ·rw[hj]at h
  obtain⟨h1,h2,_⟩:=Nl hj
  dsimp only at h
  split at h
  ·cases h
  ·split at h
   ·cases h
   ·split at h
    ·injection h with h3 h4
     omega
    ·cases h
def nY(e:Nat):Nat:=if e=0 then 2 else e
theorem Js(e:Nat):nY e≠0:=by unfold nY;split<;>omega
theorem Jt{e:Nat}(h:e≠0):nY e=e:=if_neg h
def qJ:jY->Value
 | .bad e=> .agg #[.string ⟨#[]⟩,.int .i64 0,.int .i64 (nY e:Int)]
 | .ok t to=> .agg #[.string (bu t),.int .i64 (to:Int),.int .i64 0]
theorem yD{n:Nat}{P:Program}{a:Act}{w:World}{Q:Exit->Act->World->Prop}{c rest:Code}(l:Nat)(J:Act->World->Prop)(μ:Act->World->Nat)(hf:findLabel c l=some rest)
  (first:c.wpIn Fence.wide n P (Exit.jump l J Q) a w)
  (pass:∀a w,J a w->rest.wpIn Fence.wide n P (Exit.jump l (fun a' w'=>J a' w'/\μ a' w'<μ a w) Q) a w):(Code.scope c).wpIn Fence.wide n P Q a w:=
 wpIn_wide.2 (wp_scope_jumps l J μ hf (wpIn_wide.1 first) fun a w h=>wpIn_wide.1 (pass a w h))
theorem pG{l:Nat}{J:Act->World->Prop}{Q:Exit->Act->World->Prop}{a:Act}{w:World}:Exit.jump l J Q .ret a w=Q .ret a w:=rfl
def Ig(a:Act):Int:=intOf (a.tmps.getD 3 undef)
structure KB(Bn:Nat)(A B:World):Prop where
 size:A.heap.size<=B.heap.size
 block:Bn<A.heap.size->B.heap[Bn]? =A.heap[Bn]?
theorem KB.refl(Bn:Nat)(A:World):KB Bn A A:=⟨Nat.le_refl _,fun _=>rfl⟩
theorem KB.trans{Bn:Nat}{A B C:World}(h:KB Bn A B)(k:KB Bn B C):KB Bn A C:=⟨Nat.le_trans h.size k.size,fun hl=>(k.block (Nat.lt_of_lt_of_le hl h.size)).trans (h.block hl)⟩
theorem KB.pW{Bn:Nat}{A B:World}(h:Kept aj A B):KB Bn A B:=⟨h.size,fun hl=>h.block Bn hl (fun z=>z)⟩
theorem KB.cell{Bn:Nat}{A B:World}(h:KB Bn A B)(hl:Bn<A.heap.size)(i:Nat):B.cell? ⟨Bn,i,none⟩=A.cell? ⟨Bn,i,none⟩:=World.cell?_of_block (h.block hl)
theorem KB.put{Bn:Nat}{w:World}(hl:Bn<w.heap.size)(W:World)(l:Nat)(o o':Obj)(h:w.heap.size<=l)(_:W.heap[l]? =some o)(_:o.isCells=false)(_:o.isWalk=false):KB Bn W (W.putObj l o'):=
 ⟨Nat.le_of_eq (by simp[World.putObj]),fun _=>World.putObj_heap_other (by omega)⟩
theorem Gn{s:List UInt8}{i e:Nat}(h:nextR s i=.bad e):e≠0:=by
 unfold nextR at h
 rcases AB s i with⟨e',he,h24⟩|⟨n,j,hj⟩
 ·rw[he]at h
  injection h with h
  omega
 ·rw[hj]at h
  dsimp only at h
  split at h
  ·injection h with h;omega
  ·split at h
   ·injection h with h;omega
   ·split at h
    ·cases h
    ·injection h with h;omega
theorem Pe(n:Nat)(hn:1<=n)(l Bn:Nat)(s:ByteArray)(hs:s.size<=1000000000)(J Jx:List jY->World->Prop)(W:World)(hBn:W.cell? ⟨Bn,0,none⟩=some (.string s))(hlow:Bn<W.heap.size)
  (hA:∀pre A B,J pre A->Kept aj A B->J pre B)
  (hY:∀pre x W,J pre W->pre.length<(aU (bl s)).length->YieldAt Fence.wide (n-1) Tryz.prog l #[qJ x] W fun e W'=>
   (e=.returned (.bool true)/\J (pre++[x]) W'/\KB Bn W W')\/(e=.returned (.bool false)/\Jx (pre++[x]) W'))
  (h0:J [] W):
  CallsIn Fence.wide n Tryz.prog 370 #[.func (.yield l) #[] #[],.pointer (some ⟨Bn,0,none⟩)] W fun e W'=>(∃v,e=.returned v)/\
   ((∃ys,ys=aU (bl s)/\J ys W')\/(∃pre,pre<+:aU (bl s)/\Jx pre W')):=by
 have hfn:∀k,Fence.wide.fn k:=fun _=>trivial
 have HA:=ah hA;have HY:=ah hY;have Ru:=ah hBn
 clear hA hY
 refine callsIn_of_wp Tryz.func370 rfl trivial ?_ rfl
 simp only[Tryz.ntmps370,List.size_toArray,List.length_cons,List.length_nil,Nat.reduceAdd,Nat.reduceSub,Array.replicate_succ,Array.replicate_zero,List.push_toArray,List.append_toArray,List.nil_append,List.cons_append]
 gi_wp2
 refine yD 0 (fun a' wr=>∃(i fuel:Nat) (pre:List jY) (u4 u5 u6 u7 u8 u9 u10 u11 u12 u13 u14 u15 u16 u17 u18 u19 u20 u21 u22 u23 u24 u25 u26 u27 u28 u29:Value),a'={tmps:=#[.func (.yield l) #[] #[],.pointer (some ⟨Bn,0,none⟩),undef,.int .i64 (i:Int),u4,u5,u6,u7,u8,u9,u10,u11,u12,u13,u14,u15,u16,u17,u18,u19,u20,u21,u22,u23,u24,u25,u26,u27,u28,u29],defers:=[]}/\i<=s.size/\s.size<i+(fuel+1)/\J pre wr/\KB Bn W wr/\aU (bl s)=pre++dQ (bl s) (fuel+1) i) (fun a' _=>s.size-(Ig a').toNat) rfl ?first ?pass
 case first=>
  obtain⟨fuel,hfuel⟩:∃fuel,fuel=s.size:=⟨_,rfl⟩
  obtain⟨pre,hpre⟩:∃pre:List jY,pre=[]:=⟨_,rfl⟩
  have hfl:aU (bl s)=pre++dQ (bl s) (fuel+1) 0:=by rw[hpre,hfuel];unfold aU;rw[dh];rfl
  have HF:=ah hfl
  have HJ:Hid (J pre W):=ah (by rw[hpre];exact h0)
  have HB:=ah (KB.refl Bn W)
  have c0:=hBn
  clear hfl h0 hpre hBn
  gi_wp2
  refine wpIn_label ?_
  by_cases hil:s.size<=0
  ·have Ws:(s.size:Int)<=(0:Int):=by omega
   have hemp:(s=ByteArray.empty)=True:=eq_true (ByteArray.ext (Array.eq_empty_of_size_eq_zero (Nat.le_zero.1 hil)))
   have hnil:dQ (bl s) (fuel+1) 0=[]:=by rw[dQ,if_pos (by rw[dh];exact hil)]
   have Wu:=ah hnil;clear hnil
   gi_wp2
   rw[pG]
   refine bodyPost_ret (results_none rfl _ _ _) rfl ?_
   exact⟨⟨_,rfl⟩,.inl ⟨_,by rw[HF.out,Wu.out,List.append_nil],HJ.out⟩⟩
  ·have Ws:¬(s.size:Int)<=(0:Int):=by omega
   have hemp:(s=ByteArray.empty)=False:=eq_false (fun e=>by rw[e]at hil;exact hil (Nat.le_refl _))
   have hnx:=fun W=>next_any W s 0 (by omega) hs
   rcases hR:nextR (bl s) 0 with e0|⟨t,to⟩
   ·have hcons:dQ (bl s) (fuel+1) 0=[.bad e0]:=by rw[dQ,if_neg (by rw[dh];exact hil),hR]
    have hfl:=HF.out
    rw[hcons]at hfl
    have hlen:pre.length<(aU (bl s)).length:=by rw[hfl,List.length_append];simp
    rw[hR]at hnx
    have he0:e0≠0:=Gn hR
    have he1:((e0:Int) !=0)=true:=by simpa using he0
    unfold BU at hnx
    have HN:=ah hnx;have qB:=ah hfl;have jW:=ah hlen;have HE:=ah he1;have Rw:=ah (Jt he0)
    clear hnx hR hcons hfl hlen hil he0 he1
    gi_wp2_with (gi_at_call 208;(refine(callsIn_wide.2 (HN.out _)).mono ?_;rintro e w2 ⟨rfl,hk⟩;have HJ2:=ah (HA.out _ _ _ HJ.out hk);have HB2:=ah (HB.out.trans (KB.pW hk));clear hk;obtain⟨fn,tmps,assign,body,hy,hR⟩:=HY.out pre (.bad e0) w2 HJ2.out jW.out;simp only[qJ,Rw.out]at hy))
    refine hR.mono ?_
    rintro e W3 (⟨rfl,hJ3,hk3⟩|⟨rfl,hJx3⟩)
    ·have Eo:=ah hJ3;clear hJ3 hk3
     have he1:=HE.out
     gi_wp2
     rw[pG]
     refine bodyPost_ret (results_none rfl _ _ _) rfl ?_
     exact⟨⟨_,rfl⟩,.inl ⟨_,qB.out.symm,Eo.out⟩⟩
    ·have zh:=ah hJx3;clear hJx3
     gi_wp2
     rw[pG]
     refine bodyPost_ret (results_none rfl _ _ _) rfl ?_
     exact⟨⟨_,rfl⟩,.inr ⟨_,by rw[qB.out];exact List.prefix_refl _,zh.out⟩⟩
   ·have hcons:dQ (bl s) (fuel+1) 0=.ok t to::dQ (bl s) fuel to:=by rw[dQ,if_neg (by rw[dh];exact hil),hR]
    have hto:=Jr hR
    rw[dh]at hto
    have hfl:=HF.out
    rw[hcons]at hfl
    have hlen:pre.length<(aU (bl s)).length:=by rw[hfl,List.length_append];simp
    have AL:aU (bl s)=(pre++[.ok t to])++dQ (bl s) fuel to:=by rw[hfl];simp
    rw[hR]at hnx
    unfold BU at hnx
    have HN:=ah hnx;have qB:=ah AL;have jW:=ah hlen
    clear hnx hR hcons hfl hlen hil AL
    gi_wp2_with (gi_at_call 208;(refine(callsIn_wide.2 (HN.out _)).mono ?_;rintro e w2 ⟨rfl,hk⟩;have HJ2:=ah (HA.out _ _ _ HJ.out hk);have HB2:=ah (HB.out.trans (KB.pW hk));clear hk;obtain⟨fn,tmps,assign,body,hy,hR⟩:=HY.out pre (.ok t to) w2 HJ2.out jW.out;simp only[qJ]at hy))
    refine hR.mono ?_
    rintro e W3 (⟨rfl,hJ3,hk3⟩|⟨rfl,hJx3⟩)
    ·have Eo:=ah hJ3;have HB3:=ah (HB2.out.trans hk3);clear hJ3 hk3
     gi_wp2
     refine wpIn_goto ?_
     exact⟨rfl,⟨to,fuel-1,pre++[.ok t to],_,_,_,_,_,_,_,_,_,_,_,_,_,_,_,_,_,_,_,_,_,_,_,_,_,_,rfl,by omega,by omega,Eo.out,HB3.out,by rw[show fuel-1+1=fuel by omega];exact qB.out⟩⟩
    ·have zh:=ah hJx3;clear hJx3
     gi_wp2
     rw[pG]
     refine bodyPost_ret (results_none rfl _ _ _) rfl ?_
     exact⟨⟨_,rfl⟩,.inr ⟨_,by rw[qB.out];exact List.prefix_append _ _,zh.out⟩⟩
 case pass=>
  rintro a' wr ⟨i,fuel,pre,u4,u5,u6,u7,u8,u9,u10,u11,u12,u13,u14,u15,u16,u17,u18,u19,u20,u21,u22,u23,u24,u25,u26,u27,u28,u29,rfl,hi,hfu,hJ,hB,hfl⟩
  have c0:wr.cell? ⟨Bn,0,none⟩=some (.string s):=(hB.cell hlow 0).trans Ru.out
  have HF:=ah hfl;have HJ:=ah hJ;have HB:=ah hB
  clear hfl hJ hB h0 hBn
  by_cases hil:s.size<=i
  ·have Ws:(s.size:Int)<=(i:Int):=by omega
   skip
   have hnil:dQ (bl s) (fuel+1) i=[]:=by rw[dQ,if_pos (by rw[dh];exact hil)]
   have Wu:=ah hnil;clear hnil
   gi_wp2
   rw[pG]
   refine bodyPost_ret (results_none rfl _ _ _) rfl ?_
   exact⟨⟨_,rfl⟩,.inl ⟨_,by rw[HF.out,Wu.out,List.append_nil],HJ.out⟩⟩
  ·have Ws:¬(s.size:Int)<=(i:Int):=by omega
   skip
   have hnx:=fun W=>next_any W s i (by omega) hs
   rcases hR:nextR (bl s) i with e0|⟨t,to⟩
   ·have hcons:dQ (bl s) (fuel+1) i=[.bad e0]:=by rw[dQ,if_neg (by rw[dh];exact hil),hR]
    have hfl:=HF.out
    rw[hcons]at hfl
    have hlen:pre.length<(aU (bl s)).length:=by rw[hfl,List.length_append];simp
    rw[hR]at hnx
    have he0:e0≠0:=Gn hR
    have he1:((e0:Int) !=0)=true:=by simpa using he0
    unfold BU at hnx
    have HN:=ah hnx;have qB:=ah hfl;have jW:=ah hlen;have HE:=ah he1;have Rw:=ah (Jt he0)
    clear hnx hR hcons hfl hlen hil he0 he1
    gi_wp2_with (gi_at_call 208;(refine(callsIn_wide.2 (HN.out _)).mono ?_;rintro e w2 ⟨rfl,hk⟩;have HJ2:=ah (HA.out _ _ _ HJ.out hk);have HB2:=ah (HB.out.trans (KB.pW hk));clear hk;obtain⟨fn,tmps,assign,body,hy,hR⟩:=HY.out pre (.bad e0) w2 HJ2.out jW.out;simp only[qJ,Rw.out]at hy))
    refine hR.mono ?_
    rintro e W3 (⟨rfl,hJ3,hk3⟩|⟨rfl,hJx3⟩)
    ·have Eo:=ah hJ3;clear hJ3 hk3
     have he1:=HE.out
     gi_wp2
     rw[pG]
     refine bodyPost_ret (results_none rfl _ _ _) rfl ?_
     exact⟨⟨_,rfl⟩,.inl ⟨_,qB.out.symm,Eo.out⟩⟩
    ·have zh:=ah hJx3;clear hJx3
     gi_wp2
     rw[pG]
     refine bodyPost_ret (results_none rfl _ _ _) rfl ?_
     exact⟨⟨_,rfl⟩,.inr ⟨_,by rw[qB.out];exact List.prefix_refl _,zh.out⟩⟩
   ·have hcons:dQ (bl s) (fuel+1) i=.ok t to::dQ (bl s) fuel to:=by rw[dQ,if_neg (by rw[dh];exact hil),hR]
    have hto:=Jr hR
    rw[dh]at hto
    have hfl:=HF.out
    rw[hcons]at hfl
    have hlen:pre.length<(aU (bl s)).length:=by rw[hfl,List.length_append];simp
    have AL:aU (bl s)=(pre++[.ok t to])++dQ (bl s) fuel to:=by rw[hfl];simp
    rw[hR]at hnx
    unfold BU at hnx
    have HN:=ah hnx;have qB:=ah AL;have jW:=ah hlen
    clear hnx hR hcons hfl hlen hil AL
    gi_wp2_with (gi_at_call 208;(refine(callsIn_wide.2 (HN.out _)).mono ?_;rintro e w2 ⟨rfl,hk⟩;have HJ2:=ah (HA.out _ _ _ HJ.out hk);have HB2:=ah (HB.out.trans (KB.pW hk));clear hk;obtain⟨fn,tmps,assign,body,hy,hR⟩:=HY.out pre (.ok t to) w2 HJ2.out jW.out;simp only[qJ]at hy))
    refine hR.mono ?_
    rintro e W3 (⟨rfl,hJ3,hk3⟩|⟨rfl,hJx3⟩)
    ·have Eo:=ah hJ3;have HB3:=ah (HB2.out.trans hk3);clear hJ3 hk3
     gi_wp2
     refine wpIn_goto ?_
     refine⟨rfl,⟨to,fuel-1,pre++[.ok t to],_,_,_,_,_,_,_,_,_,_,_,_,_,_,_,_,_,_,_,_,_,_,_,_,_,_,rfl,by omega,by omega,Eo.out,HB3.out,by rw[show fuel-1+1=fuel by omega];exact qB.out⟩,?_⟩
     show(s.size-(Ig _).toNat)<(s.size-(Ig _).toNat)
     simp[Ig,intOf]
     omega
    ·have zh:=ah hJx3;clear hJx3
     gi_wp2
     rw[pG]
     refine bodyPost_ret (results_none rfl _ _ _) rfl ?_
     exact⟨⟨_,rfl⟩,.inr ⟨_,by rw[qB.out];exact List.prefix_append _ _,zh.out⟩⟩
end Fr
end Go.Proofs.YtolkgbafebehfaaGreat
namespace Go.Proofs.YtolkgbafebehfaaGreat
set_option maxRecDepth 100000
namespace Fr
open Vn Ops
theorem lY(t:List UInt8):(bM t).length=(put t.length).length+4+t.length:=by simp[bM,oG];omega
theorem Ep(pre t rest:List UInt8)(ht:t.length<=65536):nextR (pre++bM t++rest) pre.length=.ok t (pre.length+(bM t).length):=by
 have e:pre++bM t++rest=pre++put t.length++(oG (qR (put t.length++t))++t++rest):=by simp[bM]
 have hg:=get_put pre (oG (qR (put t.length++t))++t++rest) t.length (by omega)
 have hm:(oG (qR (put t.length++t))).length=4:=rfl
 rw[lY,e]
 generalize hp:put t.length=p at*
 generalize hmm:oG (qR (p++t))=m at*
 unfold nextR
 rw[hg]
 dsimp only
 have d1:(pre++p++(m++t++rest)).drop (pre.length+p.length)=m++t++rest:=by
  rw[List.drop_append_of_le_length (by simp),List.drop_eq_nil_of_le (by simp)];rfl
 have d2:(pre++p++(m++t++rest)).drop pre.length=p++(m++t++rest):=by simp
 have d3:(pre++p++(m++t++rest)).drop (pre.length+p.length+4)=t++rest:=by
  rw[<-List.drop_drop,d1,<-hm];simp
 rw[if_neg (by omega),if_neg (by simp;omega),d1,d2,d3]
 have t1:(m++t++rest).take 4=m:=by rw[<-hm];simp
 have t2:(p++(m++t++rest)).take (pre.length+p.length-pre.length)=p:=by rw[Nat.add_sub_cancel_left];simp
 have t3:(t++rest).take t.length=t:=by simp
 rw[t1,t2,t3,hmm,if_pos rfl]
 congr 1
 omega
theorem Wv(pre p:List UInt8)(n:Nat)(h:n<18446744073709551616)(hp:p<+:put n)(hl:p.length<(put n).length):Vn.get (pre++p) pre.length=.error 2:=by
 have h8:=tZ h
 cases p with
 |nil=>unfold Vn.get;rw[List.append_nil,List.getElem?_eq_none (Nat.le_refl _)]
 |cons b p=>
  by_cases hs:n<248
  ·rw[oW hs]at hl;simp at hl
  ·rw[vN hs]at hp hl
   have hk:=wW n
   have hb:b=UInt8.ofNat (247+needs n):=by
    obtain⟨r,hr⟩:=hp
    simp only[lU,List.map_cons,List.cons_append]at hr
    exact(List.cons.inj hr).1
   have e2:b.toNat=247+needs n:=by rw[hb,UInt8.toNat_ofNat'];omega
   have hl2:p.length<needs n:=by simpa [lU,kM]using hl
   unfold Vn.get
   rw[List.getElem?_append_right (Nat.le_refl _),Nat.sub_self]
   simp only[List.getElem?_cons_zero]
   rw[if_neg (by omega),if_pos (by simp;omega)]
theorem Gp(pre q t:List UInt8)(ht:t.length<=65536)(hq:q<+:bM t)(hl:q.length<(bM t).length):nextR (pre++q) pre.length=.bad 2:=by
 by_cases hp:q.length<(put t.length).length
 ·have h1:q<+:put t.length:=List.prefix_of_prefix_length_le hq (by unfold bM;rw[List.append_assoc];exact List.prefix_append _ _) (by omega)
  unfold nextR
  rw[Wv pre q _ (by omega) h1 hp]
 ·have h1:put t.length<+:q:=List.prefix_of_prefix_length_le (by unfold bM;rw[List.append_assoc];exact List.prefix_append _ _) hq (by omega)
  obtain⟨r,rfl⟩:=h1
  unfold nextR
  rw[<-List.append_assoc,get_put pre r t.length (by omega)]
  dsimp only
  rw[lY]at hl
  rw[if_neg (by omega),if_pos (by simp at hl⊢;omega)]
def eu(ts:List (List UInt8)):List UInt8:=(ts.map bM).flatten
theorem Ia(q t':List UInt8)(ht':t'.length<=65536)(hq:q<+:bM t')(hl:q.length<(bM t').length):∀(ts:List (List UInt8)) (pre:List UInt8) (fuel:Nat),(∀t∈ts,t.length<=65536)->ts.length+1<=fuel->
  ∃rs:List jY,dQ (pre++eu ts++q) fuel pre.length=rs++(if q=[]then []else [.bad 2])/\rs.map (fun| .ok t _=>some t| .bad _=>none)=ts.map some
 |[],pre,fuel,_,hf=>by
  obtain⟨fuel,rfl⟩:∃k,fuel=k+1:=⟨fuel-1,by simp at hf;omega⟩
  refine⟨[],?_,rfl⟩
  unfold dQ
  by_cases h:q=[]
  ·subst h;simp[eu]
  ·have:0<q.length:=List.length_pos_iff.2 h
   have e:pre++eu []++q=pre++q:=by simp[eu]
   rw[e,if_neg (by simp;omega),Gp pre q t' ht' hq hl,if_neg h]
   rfl
 |t::ts,pre,fuel,hb,hf=>by
  obtain⟨fuel,rfl⟩:∃k,fuel=k+1:=⟨fuel-1,by simp at hf;omega⟩
  obtain⟨rs,h1,h2⟩:=Ia q t' ht' hq hl ts (pre++bM t) fuel (fun x hx=>hb x (by simp[hx])) (by simp at hf;omega)
  have e:pre++eu (t::ts)++q=pre++bM t++(eu ts++q):=by simp[eu]
  have e2:pre++bM t++eu ts++q=pre++bM t++(eu ts++q):=by simp
  rw[e2]at h1
  refine⟨.ok t (pre.length+(bM t).length)::rs,?_,by simp[h2]⟩
  rw[e]
  unfold dQ
  have hpos:=lY t
  rw[if_neg (by simp;omega),Ep pre t _ (hb t (by simp))]
  dsimp only
  rw[List.length_append]at h1
  rw[h1]
  rfl
def bY:List jY->List (List UInt8)
 | .ok t _::l=>t::bY l
 |_=>[]
def jZ:Nat->List jY->Nat
 |_,.ok _ to::l=>jZ to l
 |a,_=>a
def rH:List jY->Nat
 | .ok _ _::l=>rH l
 | .bad e::_=>nY e
 |[]=>0
def gy(l:List (List UInt8)):List Value:=l.map fun t=> .string (bu t)
def xx:List jY->Prop
 | .ok _ _::l=>xx l
 | .bad _::_=>False
 |[]=>True
theorem aaG{pre:List jY}(h:xx pre)(t:List UInt8)(to:Nat):bY (pre++[.ok t to])=bY pre++[t]/\(∀a,jZ a (pre++[.ok t to])=to)/\xx (pre++[.ok t to]):=by
 induction pre with
 |nil=>exact⟨rfl,fun _=>rfl,trivial⟩
 |cons x pre ih=>
  cases x with
  |bad e=>exact h.elim
  |ok t' Sv=>
   obtain⟨h1,h2,h3⟩:=ih h
   exact⟨by show t'::bY (pre++_)=t'::bY pre++[t];rw[h1];rfl,fun a=>h2 Sv,h3⟩
theorem ZA{p:List jY}(h:xx p)(e:Nat)(r:List jY):bY (p++ .bad e::r)=bY p/\(∀a,jZ a (p++ .bad e::r)=jZ a p)/\rH (p++ .bad e::r)=nY e:=by
 induction p with
 |nil=>exact⟨rfl,fun _=>rfl,rfl⟩
 |cons x p ih=>
  cases x with
  |bad e=>exact h.elim
  |ok t' Sv=>
   obtain⟨h1,h2,h3⟩:=ih h
   exact⟨by show t'::bY (p++_)=t'::bY p;rw[h1],fun a=>h2 Sv,h3⟩
theorem ZB{p:List jY}(h:xx p):rH p=0:=by
 induction p with
 |nil=>rfl
 |cons x p ih=>
  cases x with
  |bad e=>exact h.elim
  |ok t' Sv=>exact ih h
theorem NH(p:List jY):(bY p).length<=p.length:=by
 induction p with
 |nil=>exact Nat.le_refl _
 |cons x p ih=>
  cases x with
  |bad e=>exact Nat.zero_le _
  |ok t' Sv=>show(bY p).length+1<=p.length+1;omega
theorem xX(s:List UInt8):∀(fuel i:Nat),(dQ s fuel i).length<=fuel
 |0,_=>Nat.le_refl _
 |fuel+1,i=>by
  unfold dQ
  split
  ·exact Nat.zero_le _
  ·split
   ·simp
   ·have:=xX s fuel;simp;exact this _
theorem Sz(ts:List (List UInt8)):ts.length<=(eu ts).length:=by
 induction ts with
 |nil=>exact Nat.zero_le _
 |cons t ts ih=>
  have e:eu (t::ts)=bM t++eu ts:=by simp[eu]
  have:=lY t
  rw[e,List.length_append,List.length_cons]
  omega
theorem CQ(q t':List UInt8)(ht':t'.length<=65536)(hq:q<+:bM t')(hl:q.length<(bM t').length):∀(ts:List (List UInt8)) (pre:List UInt8) (fuel:Nat),(∀t∈ts,t.length<=65536)->ts.length+1<=fuel->
  bY (dQ (pre++eu ts++q) fuel pre.length)=ts/\jZ pre.length (dQ (pre++eu ts++q) fuel pre.length)=pre.length+(eu ts).length/\rH (dQ (pre++eu ts++q) fuel pre.length)=if q=[]then 0 else nY 2
 |[],pre,fuel,_,hf=>by
  obtain⟨fuel,rfl⟩:∃k,fuel=k+1:=⟨fuel-1,by simp at hf;omega⟩
  unfold dQ
  by_cases h:q=[]
  ·subst h;simp[eu,bY,jZ,rH]
  ·have:0<q.length:=List.length_pos_iff.2 h
   have e:pre++eu []++q=pre++q:=by simp[eu]
   rw[e,if_neg (by simp;omega),Gp pre q t' ht' hq hl,if_neg h]
   exact⟨rfl,rfl,rfl⟩
 |t::ts,pre,fuel,hb,hf=>by
  obtain⟨fuel,rfl⟩:∃k,fuel=k+1:=⟨fuel-1,by simp at hf;omega⟩
  obtain⟨h1,h2,h3⟩:=CQ q t' ht' hq hl ts (pre++bM t) fuel (fun x hx=>hb x (by simp[hx])) (by simp at hf;omega)
  have e0:eu (t::ts)=bM t++eu ts:=by simp[eu]
  have e:pre++eu (t::ts)++q=pre++bM t++(eu ts++q):=by simp[eu]
  have e2:pre++bM t++eu ts++q=pre++bM t++(eu ts++q):=by simp
  rw[e2,List.length_append]at h1 h2 h3
  rw[e]
  unfold dQ
  have hpos:=lY t
  rw[if_neg (by simp;omega),Ep pre t _ (hb t (by simp))]
  dsimp only
  refine⟨by show t::bY _=_;rw[h1],?_,h3⟩
  show jZ (pre.length+(bM t).length) _=_
  rw[h2,e0,List.length_append]
  omega
theorem SA(ts:List (List UInt8))(q t':List UInt8)(hb:∀t∈ts,t.length<=65536)(ht':t'.length<=65536)(hq:q<+:bM t')(hl:q.length<(bM t').length):
  bY (aU (eu ts++q))=ts/\jZ 0 (aU (eu ts++q))=(eu ts).length/\rH (aU (eu ts++q))=if q=[]then 0 else nY 2:=by
 have h:=CQ q t' ht' hq hl ts [] ((eu ts++q).length+1) hb (by have:=Sz ts;simp;omega)
 simpa [aU]using h
end Fr
end Go.Proofs.YtolkgbafebehfaaGreat
namespace Go.Proofs.YtolkgbafebehfaaGreat
set_option maxRecDepth 100000
namespace Fr
theorem Fz{F:Fence}{n:Nat}{P:Program}{ops:Array Oper}{Q:Exit->Act->World->Prop}{i l:Nat}{K:Act->World->Prop}{a:Act}{w:World}(hro:F.round=none)(hd:∀(j:Nat) (o:Oper),ops[j]? =some o->∀c,o.op≠ .defer c)
  (h:wpOpIn F n P ops Q i K a w):wpOpIn (F.inRound l) n P ops Q i K a w:=by
 unfold wpOpIn at*
 cases ho:ops[i]? with
 |none=>simpa only[ho]using h
 |some o=>
  simp only[ho]at h⊢
  split
  ·rename_i hw
   simp only[hw,if_true]at h
   unfold Oper.wpIn at*
   refine⟨h.1,?_⟩
   have h2:=h.2
   rw[hro,Oper.semAt_none]at h2
   show o.uponIn (F.inRound l) n P a K Q ((o.semAt (some l) a.eval).run P w)
   rw[Oper.semAt_some l _ _ (hd i o ho)]
   exact h2
  ·rename_i hw
   simp only[hw]at h
   exact h
theorem Es{F:Fence}{n:Nat}{P:Program}{md:Region.Mode}{ops:Array Oper}{Q:Exit->Act->World->Prop}{l:Nat}(hro:F.round=none)(hd:∀(j:Nat) (o:Oper),ops[j]? =some o->∀c,o.op≠ .defer c):
  ∀(fuel:Nat) (listed:Array Bool) (a:Act) (w:World),wpAnyIn F n P md ops Q fuel listed a w->wpAnyIn (F.inRound l) n P md ops Q fuel listed a w:=by
 intro fuel
 induction fuel with
 |zero=>intro listed a w h;exact h
 |succ fuel ih=>
  intro listed a w h
  exact⟨h.1,fun i hi=>Fz hro hd (wpOpIn_mono (fun a w=>ih _ a w) (h.2 i hi))⟩
theorem CG{F:Fence}{n:Nat}{P:Program}{ops:List Oper}{Q:Exit->Act->World->Prop}{l id:Nat}{a:Act}{w:World}(hro:F.round=none)(hm:P.follows .mixedOrders=true)(hd:∀o∈ops,∀c,o.op≠ .defer c)
  (h:wpAnyIn F n P .any ops.toArray Q ops.toArray.size (Array.replicate ops.toArray.size false) a w.drew):(Code.region id ops.toArray true).wpIn (F.inRound l) n P Q a w:=
 wpIn_region_any hm (Es hro (fun j o ho=>hd o (by
  have:=Array.mem_of_getElem? ho
  simpa using this)) _ _ _ _ h)
end Fr
end Go.Proofs.YtolkgbafebehfaaGreat

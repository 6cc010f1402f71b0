/- Part 13. -/
import Derived.Test.YtgbigpdiacjbgaaGreatKP10
import Derived.Test.YtgbigpdiacjbgaaGreatKP11
set_option linter.unusedSimpArgs false
set_option linter.unusedVariables false
set_option maxHeartbeats 32000000
set_option maxRecDepth 100000
namespace Go.Proofs.YtgbigpdiacjbgaaGreat
open Go.RowKit
namespace Ops
open Vn
def wO(f:BL->Option dU)(o:dU):BL->Option dU:=fun x=>if x=bl o.key then some o else f x
def oK(m:List dU):BL->Option dU:=m.foldl wO fun _=>none
def o0:dU:=⟨⟨#[]⟩,⟨#[]⟩,false⟩
def vg(m:List dU):List BL:=Keys.Ce (m.map fun o=>bl o.key)
def rM(m:List dU):List dU:=(vg m).map fun x=>(oK m x).getD o0
theorem Gm(m:List dU)(i:Nat)(o:dU)(h:m[i]? =some o):oK (m.take (i+1))=wO (oK (m.take i)) o:=by unfold oK;rw[List.take_add_one,h,Option.toList_some,List.foldl_append];rfl
theorem Rf(m:List dU):(vg m).length<=m.length:=by have:=Keys.XA (m.map fun o=>bl o.key);rwa[List.length_map]at this
theorem Rh(m:List dU):Keys.setB (m.map fun o=>o.key)=(vg m).map fE:=by unfold Keys.setB vg Keys.bl fE;rw[List.map_map];congr 2;congr 1;funext o;simp[bl,ByteArray.toList_eq]
def Gn(w:World)(l:List dU)(e:Ending)(w':World):Prop:=
 ∃A c,e=.returned (.slice A l.length c)/\bV 143 3 w.heap.size w' A l.length c (cells l)/\Kept aj w w'
theorem cells_at{l:List dU}{i:Nat}{o:dU}(h:l[i]? =some o):cells (l.take (i+1))=cells (l.take i)++[.string o.key,.string o.val,.bool o.del]:=by rw[List.take_add_one,h,Option.toList_some];unfold cells;rw[List.flatMap_append];simp[cell]
def YU(o:dU):Array Value:=#[.string o.key,.string o.val,.bool o.del]
theorem Ri(w:World)(A:Option Addr)(c:Nat)(m:List dU)(hm:Src w 3 A m.length (cells m))(hlen:m.length<=1000):
  Calls Tryz.prog 73 #[.slice A m.length c] w (Gn w (rM m)):=by
 have HM:=ah hm;clear hm;go_enter Tryz.func73,Tryz.ntmps73;go_wp2_with fail;go_loopw [3,4] (fun v3 v4 wr=>∃(i:Nat) (A':Option Addr) (c':Nat),i<=m.length/\v4=.int .i64 i/\v3=.slice A' i c'/\bV 9 1 w.heap.size wr A' i c' (Keys.strs ((m.take i).map fun o=>o.key))/\Kept aj w wr) (fun _ v4 _=>m.length-(intOf v4).toNat)
 case atStart=>exact⟨0,none,0,Nat.zero_le _,rfl,rfl,⟨⟨rfl,.inl ⟨rfl,rfl⟩⟩,fun k hk=>by cases hk⟩,Kept.refl _ _⟩
 case round=>
  obtain⟨i,A5,c5,hi,rfl,rfl,hrow,hk⟩:=hrel;have hsz:=hk.size;have dX:=ah (And.intro hrow hsz);clear hrow hsz;have HK:=ah hk;clear hk;by_cases hil:i<m.length
  ·obtain⟨o,ho⟩:∃o,m[i]? =some o:=⟨_,lB0 hil⟩;obtain⟨ad,rfl,hlt,e0,e1,e2⟩:=nU (HM.out.kept HK.out (fun _ _ x=>x)) (by omega) i o ho;have hsn:Keys.strs ((m.take (i+1)).map fun o=>o.key)=Keys.strs ((m.take i).map fun o=>o.key)++[.string o.key]:=by rw[List.take_add_one,ho];simp[Keys.strs]
   have nI:=ah hsn;clear hsn ho;have hm1:i+1<=maxLen:=by unfold maxLen;omega
   have hm2:(i+1)*16<=140737488355328:=by omega
   have kY:=ah hm1;clear hm1;have kR:=ah hm2;clear hm2;obtain⟨k0,v0,d0⟩:=o;dsimp only at e0 e1 e2 nI;go_wp2_with (at_builtin;refine bH Keys.rV (.tmp 15) (.tmp 21) rfl rfl (Value.slice A5 i c5) rfl ((dX.out.1.kept ((Kept.refl _ _).alloc _)).1) 1 rfl (Src.kW (m:=1) (cs:=#[.string k0]) (Has.dQ _ 9 _ (by simp)) rfl) (by intro u hu;simp at hu;rcases hu with rfl;rfl) kY.out kR.out ?_;intro A6 c6 w6 ji fJ ha6);have vV:bV 9 1 w.heap.size w6 A6 (i+1) c6 (Keys.strs ((m.take (i+1)).map fun o=>o.key)):=by rw[nI.out];exact dX.out.1.snoc (by simp;have:=dX.out.2;omega) ji ha6
   have hk6:Kept aj w w6:=(HK.out.alloc _).grown fJ (fun k hk=> .inr (dX.out.1.2 k hk));clear ji fJ ha6;have vW:=ah (And.intro vV hk6);clear vV hk6;go_wp2;go_roundw
   case rel=>exact⟨i+1,A6,c6,by omega,by go_num,rfl,vW.out.1,vW.out.2⟩
   case measure=>simp[intOf];omega
  ·obtain rfl:i=m.length:=by omega
   rw[List.take_length]at dX;have hset:=Keys.UQ wr A5 c5 (m.map fun o=>o.key) (by rw[List.length_map];exact Src.fA dX.out.1.1) (by rw[List.length_map];exact hlen);rw[List.length_map,Rh,List.length_map]at hset;have KA:=ah hset;clear hset;obtain⟨w2,hw2⟩:∃w2:World,w2=wr:=⟨_,rfl⟩;subst hw2;go_wp2_with fail;refine KA.out.mono ?_;rintro e w3 ⟨A3,c3,rfl,hown,hnw,hB⟩;have hk3:Kept aj w w3:=HK.out.then (Kept.of_below hB (fun k hk _=>hk));have hsrc:=Src.fA hown;have hnl:=Rf m;have OI:∀i x,(vg m)[i]? =some x->(rM m)[i]? =some ((oK m x).getD o0):=fun i x h=>by unfold rM;rw[List.getElem?_map,h];rfl
   have Rj:(rM m).length=(vg m).length:=by unfold rM;rw[List.length_map]
   clear hown hnw hB;obtain⟨ks,hks⟩:∃ks,vg m=ks:=⟨_,rfl⟩;rw[hks]at hsrc hnl OI Rj;rw[show(vg m).length=ks.length by rw[hks]];obtain⟨out,hout⟩:∃out,rM m=out:=⟨_,rfl⟩;rw[hout]at OI Rj;have Rk:=ah hout;clear hks hout;obtain⟨n,hn⟩:∃n,ks.length=n:=⟨_,rfl⟩;rw[hn]at hsrc hnl Rj⊢;have I9:=ah (HM.out.kept hk3 (fun _ _ x=>x));have uS:=ah hsrc;clear hsrc;have HN:=ah hn;clear hn;have UR:=ah OI;clear OI;have YV:=ah Rj;clear Rj;have dI:=ah hk3;clear hk3 KA dX HK;go_wp2_with fail;go_loopw [5,6] (fun v5 v6 wr=>∃(i:Nat) (A':Option Addr) (c':Nat),i<=n/\v6=.int .i64 i/\v5=.slice A' i c'/\bV 143 3 w3.heap.size wr A' i c' (cells (out.take i))/\Kept aj w3 wr) (fun _ v6 _=>n-(intOf v6).toNat)
   case atStart=>exact⟨0,none,0,Nat.zero_le _,rfl,rfl,⟨⟨rfl,.inl ⟨rfl,rfl⟩⟩,fun k hk=>by cases hk⟩,Kept.refl _ _⟩
   case round=>
    obtain⟨i,A5,c5,hi,rfl,rfl,hrow,hk⟩:=hrel;have hsz:=hk.size;have dX:=ah (And.intro hrow hsz);clear hrow hsz;have HK:=ah hk;clear hk;by_cases hil:i<n
    ·obtain⟨x,hx⟩:∃x,ks[i]? =some x:=⟨_,lB0 (by have:=HN.out;omega)⟩;have hox:=UR.out i x hx;have hnx:(ks.map fE)[i]? =some (fE x):=by rw[List.getElem?_map,hx];rfl
     have jT:=ah hnx;clear hnx hx;have hcs:=cells_at hox;have dV:=ah hcs;clear hcs hox;obtain⟨wo,hwo⟩:∃wo:World,wo=wr:=⟨_,rfl⟩;subst hwo;go_wp2_with fail;go_loopw [8] (fun v8 wq=>∃(k:Nat) (q:dU),k<=m.length/\v8=.int .i64 k/\(oK (m.take k) x).getD o0=q/\Has wq wo.heap.size 143 #[.string q.key,.string q.val,.bool q.del]/\Kept aj wo wq) (fun v8 _=>m.length-(intOf v8).toNat)
     case atStart=>exact⟨0,o0,Nat.zero_le _,rfl,rfl,(Has.new wo 143 #[.string ⟨#[]⟩,.string ⟨#[]⟩,.bool false]),by(repeat'(first|(with_reducible first|exact ay|apply aA|apply aB|apply aC|apply aF)|(right;simp;done)))⟩
     case round=>
      obtain⟨k,q,hk,rfl,hq,hb,hkw⟩:=hrel;have FI:Kept aj w3 wr:=HK.out.then hkw;by_cases hkl:k<m.length
      ·obtain⟨o,ho⟩:∃o,m[k]? =some o:=⟨_,lB0 hkl⟩;obtain⟨ad,rfl,hlt,e0,e1,e2⟩:=nU (I9.out.kept FI (fun _ _ x=>x)) (by omega) k o ho;obtain⟨td,rfl,_,f0⟩:=Keys.DN (uS.out.kept FI (fun _ _ x=>x)) (by omega) i (fE x) jT.out;have hst:=congrFun (Gm m k o ho) x;unfold wO at hst;have hte:=oG o.key (fE x);have g0:=hb.cell 0;have g1:=hb.cell 1;have g2:=hb.cell 2;simp only[lF0,List.getElem?_cons_zero,List.getElem?_cons_succ]at g0 g1 g2;have hb0:=hb.frozen 0;have hb1:=hb.frozen 1;have hb2:=hb.frozen 2;have HB:=ah (And.intro hb hkw);clear hb hkw FI;clear ho;obtain⟨k1,v1,d1⟩:=o;dsimp only at*
       by_cases he:k1=fE x
       ·have hxe:x=bl k1:=by rw[he,lH]
        rw[if_pos hxe]at hst;rw[decide_eq_true he]at hte;have HST:=ah hst;clear hst hxe he;go_wp2_with fail;go_quiet (fail);go_wp2_with fail;go_roundw
        case rel=>exact⟨k+1,⟨k1,v1,d1⟩,by omega,by go_num,by rw[HST.out];rfl,by((repeat (first|with_reducible exact HB.out.1|with_reducible apply Has.aQ|with_reducible apply Has.past|with_reducible apply Has.drewN|with_reducible apply Has.drew|with_reducible apply Has.alloc))<;>first|omega|rfl),HB.out.2.trans (G:=fun j=>j=wo.heap.size) (by(repeat'(first|(with_reducible first|exact ay|apply aA|apply aB|apply aC|apply aF)|(exact Or.inl rfl)|(right;simp;done)))) (fun j hj=> .inr (by rw[hj];exact Nat.le_refl _))⟩
        case measure=>simp[intOf];omega
       ·have hxe:¬x=bl k1:=fun e=>he (by rw[e,Du]);rw[if_neg hxe]at hst;rw[decide_eq_false he]at hte;have HST:=ah hst;clear hst hxe he;go_wp2_with fail;go_quiet (fail);go_wp2_with fail;go_roundw
        case rel=>exact⟨k+1,q,by omega,by go_num,by rw[HST.out];exact hq,by((repeat (first|with_reducible exact HB.out.1|with_reducible apply Has.aQ|with_reducible apply Has.past|with_reducible apply Has.drewN|with_reducible apply Has.drew|with_reducible apply Has.alloc))<;>first|omega|rfl),HB.out.2.then (by(repeat'(first|(with_reducible first|exact ay|apply aA|apply aB|apply aC|apply aF)|(right;simp;done))))⟩
        case measure=>simp[intOf];omega
      ·obtain rfl:k=m.length:=by omega
       rw[List.take_length]at hq;rw[hq]at dV;have hb0:=hb.cell 0;have hb1:=hb.cell 1;have hb2:=hb.cell 2;simp only[lF0,List.getElem?_cons_zero,List.getElem?_cons_succ]at hb0 hb1 hb2;have hro:=dX.out.1.kept hkw;have FI:Kept aj w3 wr:=HK.out.then hkw;have HR:=ah (And.intro hro (And.intro FI FI.size));clear hro FI hb hkw hq;obtain⟨k1,v1,d1⟩:=q;dsimp only at*
       have hm1:i+1<=maxLen:=by unfold maxLen;omega
       have hm2:(i+1)*40<=140737488355328:=by omega
       have kY:=ah hm1;clear hm1;have kR:=ah hm2;clear hm2;go_wp2_with (at_builtin;refine bH Gl (.tmp 52) (.tmp 54) rfl rfl (Value.slice A5 i c5) rfl ((HR.out.1.kept ((Kept.refl _ _).alloc _)).1) 1 rfl (Src.kW (m:=1) (cs:=#[.string k1,.string v1,.bool d1]) (Has.dQ _ 143 _ (by simp)) rfl) (by intro u hu;simp at hu;rcases hu with rfl|rfl|rfl<;>rfl) kY.out kR.out ?_;intro A6 c6 w6 ji fJ ha6);have vV:bV 143 3 w3.heap.size w6 A6 (i+1) c6 (cells (out.take (i+1))):=by rw[dV.out];exact HR.out.1.snoc (by simp;have:=HR.out.2.2;omega) ji ha6
       have hk6:Kept aj w3 w6:=(HR.out.2.1.alloc _).grown fJ (fun k hk=> .inr (HR.out.1.2 k hk));clear ji fJ ha6;have vW:=ah (And.intro vV hk6);clear vV hk6;go_wp2;go_roundw
       case rel=>exact⟨i+1,A6,c6,by omega,by go_num,rfl,vW.out.1,vW.out.2⟩
       case measure=>simp[intOf];omega
    ·obtain rfl:i=n:=by omega
     go_wp2;go_ret;have h1:=dX.out.1;rw[List.take_of_length_le (by rw[YV.out];exact Nat.le_refl _)]at h1;refine⟨A5,c5,by rw[Rk.out,YV.out];rfl,?_,dI.out.then HK.out⟩;rw[Rk.out,YV.out];exact⟨h1.1,fun k hk=>Nat.le_trans dI.out.size (h1.2 k hk)⟩
end Ops
namespace Ops
open Vn
theorem Ja{m:List dU}{x:BL}{o:dU}(h:oK m x=some o):bl o.key=x/\o∈m:=by
 suffices∀(m:List dU) (g:BL->Option dU),m.foldl wO g x=some o->g x=some o\/(bl o.key=x/\o∈m) by
  rcases this m _ h with h1|h1
  ·cases h1
  ·exact h1
 intro m;induction m with
 |nil=>intro g h;exact .inl h
 |cons p m ih=>
  intro g h;rcases ih _ h with h1|⟨h1,h2⟩
  ·unfold wO at h1;split at h1
   ·rename_i e;injection h1 with h1;subst h1;exact .inr ⟨e.symm,by simp⟩
   ·exact .inl h1
  ·exact .inr ⟨h1,List.mem_cons_of_mem _ h2⟩
theorem Gp{m:List dU}{x:BL}(h:x∈m.map fun o=>bl o.key):∃o,oK m x=some o:=by
 suffices∀(m:List dU) (g:BL->Option dU),((∃o,g x=some o)\/x∈m.map fun o=>bl o.key)->∃o,m.foldl wO g x=some o from this m _ (.inr h);intro m;induction m with
 |nil=>
  intro g h;rcases h with h|h
  ·exact h
  ·cases h
 |cons p m ih=>
  intro g h;rw[List.foldl_cons];refine ih _ ?_;by_cases e:x=bl p.key
  ·exact .inl ⟨p,by unfold wO;rw[if_pos e]⟩
  ·rcases h with⟨o,h⟩|h
   ·exact .inl ⟨o,by unfold wO;rw[if_neg e];exact h⟩
   ·rw[List.map_cons,List.mem_cons]at h;rcases h with h|h
    ·exact absurd h e
    ·exact .inr h
theorem Rl{m:List dU}{x:BL}:x∈vg m↔x∈m.map fun o=>bl o.key:=Keys.mem_set _ _
end Ops
end Go.Proofs.YtgbigpdiacjbgaaGreat
namespace Go.Proofs.YtgbigpdiacjbgaaGreat
open Go.Shelf Go.Sort Go.RowKit Go.Maps Go.Proofs
namespace IZ
open Ops
theorem Gq{w:World}{g:Nat}{cur:Array Value}{e:TypeId}{xs:List Value}(hb:w.heap[g]? =some (.cells cur e (0,0)))(ht:cur.toList.take xs.length=xs):Holds id w g 0 xs.toArray:=by
 intro j hj;have hj':j<xs.length:=by simpa using hj
 refine⟨?_,by simp[World.frozen?,hb]⟩;have h1:(cur.toList.take xs.length)[j]? =xs[j]? :=by rw[ht]
 rw[List.getElem?_take_of_lt hj']at h1;simp only[World.cell?,hb,Nat.zero_add];simp only[Option.isSome_none,Bool.false_eq_true,if_false];rw[<-Array.getElem?_toList,h1];simp[hj']
theorem KC{w:World}{g n:Nat}{os:Array Obj}{cur:Array Value}{e:TypeId}{fr:Nat×Nat}(d:Array Value)(hb:w.heap[g]? =some (.cells cur e fr)):
  (grow (putRow id (Sort.ahead w n) g 0 d) os).heap[g]? =some (.cells (putCells id 0 d cur) e fr):=by
 have hg:g<w.heap.size:=(Array.getElem?_eq_some_iff.1 hb).1;rw[heap_grow_old _ _ (by simpa using hg)];simp[putRow,mapBlock,Sort.ahead,Array.getElem?_modify,hb,onCells]
theorem Gs{w:World}{g n:Nat}{os:Array Obj}(d:Array Value):w.grownBy (grow (putRow id (Sort.ahead w n) g 0 d) os) (some g):=by refine⟨rfl,rfl,rfl,by simp,fun k hk hne=> ?_⟩;rw[heap_grow_old _ _ (by simpa using hk)];have:g≠k:=fun e=>hne (by rw[e]);simp[putRow,mapBlock,Sort.ahead,Array.getElem?_modify,this]
theorem H8(cur:Array Value)(ts:List Value)(h:ts.length<=cur.size):(putCells id 0 ts.toArray cur).toList.take ts.length=ts:=by
 apply List.ext_getElem?
 intro j;by_cases hj:j<ts.length
 ·rw[List.getElem?_take_of_lt hj,Array.getElem?_toList];simp[putCells,hj,show j<cur.size by omega]
 ·rw[List.getElem?_take_eq_none (by omega),List.getElem?_eq_none (by omega)]
theorem Gt{w:World}{base g cap n m sz:Nat}{e:TypeId}{os:Array Obj}{cur:Array Value}{ts:List Value}(hl:ts.length=m*sz)(hbase:base<=g)(hb:w.heap[g]? =some (.cells cur e (0,0)))
  (h1:m<=cap) (h2:cap<=maxLen) (h3:cur.size=cap*sz):
  (grow (putRow id (Sort.ahead w n) g 0 ts.toArray) os).ownsRow base e sz (.slice (some ⟨g,0,none⟩) m cap) m ts:=
 ⟨hl,.inr ⟨g,cap,_,rfl,hbase,KC _ hb,h1,h2,by simp[putCells,h3],by rw[<-hl];exact H8 cur ts (by rw[h3,hl];exact Nat.mul_le_mul_right _ h1)⟩⟩
theorem Gu{α:Type} [Inhabited α](enc:α->List Value)(k:Nat)(hpos:0<k)(hk:∀x,(enc x).length=k)(l:List α):flatK enc k l.toArray=(l.flatMap enc).toArray:=by
 have hlen:(l.flatMap enc).length=l.length*k:=by
  induction l with
  |nil=>simp
  |cons a l ih=>rw[List.flatMap_cons,lA0,hk,ih,List.length_cons,Nat.succ_mul];omega
 refine Array.ext (by simp[hlen]) fun t h1 h2=> ?_;have ht:t<l.length*k:=by simpa using h1
 have e1:=get_flatK enc k l.toArray t (by simpa using ht);rw[getElem!_pos _ t h1]at e1;rw[e1];have htk:t/k<l.length:=Nat.div_lt_of_lt_mul (by rwa[Nat.mul_comm]);have hf:=flat_get enc k hpos hk l t;rw[lB0 htk,Option.bind_some]at hf;have hm:t%k<(enc l[t/k]).length:=by rw[hk];exact Nat.mod_lt _ hpos
 rw[lB0 hm]at hf;have h3:(l.flatMap enc)[t]? =some ((l.flatMap enc)[t]'(by rw[hlen];exact ht)):=lB0 _;rw[h3]at hf;injection hf with hf;show _=(l.flatMap enc)[t]'(by rw[hlen];exact ht);rw[hf];have e2:(l.toArray)[t/k]! =l[t/k]:=by simp[htk]
 rw[e2];exact getElem!_pos (enc l[t/k]) (t%k) hm
def vI(x y:BL):Int:=if Op.bytesLess x y=true then-1 else if Op.bytesLess y x=true then 1 else 0
theorem Rn(w:World)(a:ByteArray):Calls Tryz.prog 167 #[.string a] w fun e w'=>e=.returned (.bool false)/\w=w':=by go_enter Tryz.func167,Tryz.ntmps167;go_wp2;go_ret;exact⟨by simp,rfl⟩
theorem YW(x:BL):Op.bytesLess x x=false:=by rw[bytesLess_eq];simp
theorem Nc(w:World)(a b:ByteArray):Calls Tryz.prog 125 #[.string a,.string b] w fun e w'=>e=.returned (.int .i64 (vI a.toList b.toList))/\w=w':=by
 have hn:=fun W s=>Rn W s;have HN:=ah hn;clear hn;unfold vI;by_cases h1:Op.bytesLess a.toList b.toList=true
 ·rw[if_pos h1];go_enter Tryz.func125,Tryz.ntmps125;go_wp2_with (go_at_call 167;refine(HN.out _ _).mono ?_;rintro e w' ⟨rfl,rfl⟩);go_ret;exact⟨rfl,rfl⟩
 ·rw[if_neg h1];have h1':Op.bytesLess a.toList b.toList=false:=by simpa using h1
  clear h1;by_cases h2:Op.bytesLess b.toList a.toList=true
  ·rw[if_pos h2];have hne:(a.toList==b.toList)=false:=by rw[beq_eq_false_iff_ne];intro e;rw[e,YW]at h2;cases h2
   go_enter Tryz.func125,Tryz.ntmps125;go_wp2_with (go_at_call 167;refine(HN.out _ _).mono ?_;rintro e w' ⟨rfl,rfl⟩);go_ret;exact⟨rfl,rfl⟩
  ·rw[if_neg h2];have h2':Op.bytesLess b.toList a.toList=false:=by simpa using h2
   clear h2;have heq:(a.toList==b.toList)=true:=by
    rw[beq_iff_eq];by_cases e:a.toList=b.toList
    ·exact e
    ·have:=Keys.F7 _ _ h1' e;rw[h2']at this;cases this
   go_enter Tryz.func125,Tryz.ntmps125;go_wp2_with (go_at_call 167;refine(HN.out _ _).mono ?_;rintro e w' ⟨rfl,rfl⟩);go_ret;exact⟨rfl,rfl⟩
theorem Ro(w:World)(o p:dU):Calls Tryz.prog 83 #[yS o,yS p] w fun e w'=>e=.returned (.int .i64 (vI o.key.toList p.key.toList))/\∃q os',w'=grow (w.drewN q) os':=by obtain⟨k1,v1,d1⟩:=o;obtain⟨k2,v2,d2⟩:=p;have hc:=fun W=>Nc W k1 k2;dsimp only[yS];generalize vI k1.toList k2.toList=r at hc⊢;have HC:=ah hc;clear hc;go_enter Tryz.func83,Tryz.ntmps83;go_wp2_with (go_at_call 125;refine(HC.out _).mono ?_;rintro e w' ⟨rfl,rfl⟩);go_ret;exact⟨rfl,0,_,by rw[alloc_eq_grow,alloc_eq_grow,grow_grow];rfl⟩
def rowOf(f:BL->Option dU)(x:BL):dU:=⟨fE x,((f x).getD o0).val,((f x).getD o0).del⟩
def oL(f:BL->Option dU)(x:BL):List Value:=cell (rowOf f x)
theorem KD(x y:BL):ltOf vI x y=decide (x<y):=by
 unfold ltOf vI;rw[bytesLess_eq,bytesLess_eq];by_cases h:x<y
 ·simp[h]
 ·by_cases h2:y<x<;>simp[h,h2]
theorem XH:SWO (ltOf vI):=by
 have e:ltOf vI=fun x y=>decide (x<y):=funext fun x=>funext fun y=>KD x y;rw[e];refine⟨fun x=>by simp,fun x y z h1 h2=> ?_,fun x y z h1 h2=> ?_⟩
 ·simp only[decide_eq_true_eq]at*
  exact List.lt_trans h1 h2
 ·simp only[decide_eq_false_iff_not,List.not_lt]at*
  exact List.le_trans h2 h1
theorem XI(x y:BL)(h1:ltOf vI x y=false)(h2:ltOf vI y x=false):x=y:=by rw[KD,decide_eq_false_iff_not,List.not_lt]at h1 h2;exact List.le_antisymm h2 h1
theorem US(l:List BL):(l.mergeSort fun x y=> !(ltOf vI) y x)=l.mergeSort leB:=by
 congr 1;funext x y;rw[KD];unfold leB;by_cases h:y<x
 ·have:¬x<=y:=fun e=>List.not_lt.2 e h;simp[h,this]
 ·simp[h,List.not_lt.1 h]
theorem UT(f:BL->Option dU)(blk off size:Nat)(w:World):CmpLays Tryz.prog 83 #[] (oL f) 3 vI blk off size w:=
 fun m os dk _ x y=>by
  have h:=Ro (sortWorldK (oL f) 3 w blk off m dk os) (rowOf f x) (rowOf f y);have e:∀z:BL,(fE z).toList=z:=fun z=>by rw[ByteArray.toList_eq];simp[fE]
  have h2:vI (rowOf f x).key.toList (rowOf f y).key.toList=vI x y:=by unfold rowOf;rw[e,e]
  rw[h2]at h;exact h
end IZ
namespace IZ
open Ops
abbrev DU:=BL->Option dU
def DV(o:dU):DataW Unit:=.agg [.lit (.string (bl o.key)),.lit (.string (bl o.val)),.lit (.bool o.del)]
theorem UU{o p:dU}(h:DV o=DV p):o=p:=by obtain⟨a,b,c⟩:=o;obtain⟨a',b',c'⟩:=p;unfold DV at h;injection h with h;injection h with h1 h;injection h with h2 h;injection h with h3 h;injection h1 with h1;injection h1 with h1;injection h2 with h2;injection h2 with h2;injection h3 with h3;injection h3 with h3;have k1:a=a':=yH h1;have k2:b=b':=yH h2;have k3:c=c':=h3;rw[k1,k2,k3]
def EL:List Value->Option dU
 |[.string k,.string v,.bool d]=>some ⟨k,v,d⟩
 |_=>none
theorem Nh{l:List Value}{o:dU}(h:EL l=some o):l=[.string o.key,.string o.val,.bool o.del]:=by
 unfold EL at h;split at h
 ·injection h with h;subst h;rfl
 ·cases h
def BJ:Value->Option (DataW Unit×List MemPlace)
 | .agg cs=>(EL cs.toList).map fun o=>(DV o,[])
 |_=>none
theorem Rq(o:dU):BJ (yS o)=some (DV o,[]):=rfl
theorem OJ{v:Value}{y:DataW Unit×List MemPlace}(h:BJ v=some y):∃o:dU,v=yS o:=by
 cases v<;>simp only[BJ]at h
 case agg cs=>
  cases ho:EL cs.toList with
  |none=>rw[ho]at h;cases h
  |some o=>
   have:=Nh ho;obtain⟨l⟩:=cs;simp only at this;subst this;exact⟨o,rfl⟩
 all_goals cases h
def yT(w:World)(b n:Nat)(f:DU):Prop:=
 ∃D:DataW Unit,w.ownsMap Tryz.prog 9 BJ b n D/\∀x:BL,has D (.string x)=(f x).isSome/\∀o,f x=some o->D.atKey (.string x) (.lit (.bool false))=DV o
theorem yT.lt{w:World}{b n:Nat}{m:DU}(h:yT w b n m):b<w.heap.size:=by obtain⟨D,h,_⟩:=h;exact h.lt
theorem yT.kept{F:Nat->Prop}{w w':World}{b n:Nat}{m:DU}(h:yT w b n m)(hk:Kept F w w')(hf:¬F b):yT w' b n m:=by obtain⟨D,ho,hD⟩:=h;have hlt:=ho.lt;obtain⟨es,clock,hb,hF,hs,e⟩:=ho;exact⟨D,⟨es,clock,(hk.block b hlt hf).trans hb,hF,hs,e⟩,hD⟩
theorem yT.made(w:World):yT (w.alloc (.map #[] 0)) w.heap.size 0 (fun _=>none):=
 ⟨_,World.ownsMap_made w _ _ _,fun k=>⟨rfl,fun o h=>by cases h⟩⟩
theorem yT.store{w:World}{b n:Nat}{m:DU}(h:yT w b n m)(hn:n<maxLen)(o:dU)(hk:o.key.size<=maxLen):
  ∃w',(Instr.mapUpdate 141 (.map (some b)) (.string o.key) (yS o)).run Tryz.prog w=.ok () w'/\yT w' b (n+1) (wO m o)/\Kept (fun i=>i=b) w w':=by
 obtain⟨D,ho,hD⟩:=h;obtain⟨w',hrun,ho',hg⟩:=ho.update Fp Tryz.underlying141 hn (YC hk) (Rq o);refine⟨w',hrun,⟨_,ho',?_⟩,(Kept.refl _ _).grownBy hg fun i hi=>by injection hi with hi;exact .inl hi.symm⟩;intro x;have hm:IsMap D:=ho.isMap;have hl:WideAt.IsKeyLit (.string (bl o.key)):=by trivial
 by_cases e:x=bl o.key
 ·subst e;rw[has_put_same hm hl,atKey_put_same hm hl];unfold wO;rw[if_pos rfl];exact⟨rfl,fun p hp=>by injection hp with hp;rw[hp]⟩
 ·have hne:(Lit.string x)≠ .string (bl o.key):=fun h=>e (by injection h);rw[has_put_other hne,atKey_put_other hne];have:=hD x;unfold wO;rw[if_neg e];exact this
theorem OL{w:World}{base e sz n b k m:Nat}{v:Value}{xs:List Value}{R:Value->Option (DataW Unit×List MemPlace)}{D:DataW Unit}(h:w.ownsRow base e sz v n xs)(hm:w.ownsMap Tryz.prog k R b m D):v.ownBlock≠some b:=by
 obtain⟨es,clock,hb,_⟩:=hm;rcases h.2 with⟨rfl,_⟩|⟨g,cap,cur,rfl,_,hg,_⟩
 ·simp[Value.ownBlock]
 ·intro e;obtain rfl:g=b:=by simpa [Value.ownBlock]using e
  rw[hg]at hb;cases hb
theorem XJ:Elem Tryz.prog 144 145 3 40:=by obtain⟨i0,hi,hz0,hz1,hz2⟩:=info_parts (show(Tryz.prog.info? 145).map (fun i=>(i.zero,i.size,i.bytes))=some (some (.agg #[.string ⟨#[]⟩,.string ⟨#[]⟩,.bool false]),3,40) by kernel_rfl);exact⟨Tryz.underlying144,⟨i0,_,hi,hz0,hz1,hz2,rfl⟩,by decide⟩
theorem Cj(f:DU)(x:BL):(oL f x).length=3:=rfl
theorem UW(f:DU)(x:BL):∀v∈oL f x,v.oneCell'=true:=by intro v hv;unfold oL cell at hv;simp at hv;rcases hv with rfl|rfl|rfl<;>rfl
theorem xP(f:DU)(l:List BL):(l.flatMap (oL f)).length=l.length*3:=by
 induction l with
 |nil=>rfl
 |cons a l ih=>rw[List.flatMap_cons,lA0,Cj,ih,List.length_cons,Nat.succ_mul];omega
theorem Rt(w:World)(base:Nat)(A:Option Addr)(c:Nat)(f:DU)(L:List BL)(h:w.ownsRow base 145 3 (.slice A L.length c) L.length (L.flatMap (oL f)))(hlen:L.length<=1000000):
  Calls Tryz.prog 82 #[.slice A L.length c,.func (.func 83) #[] #[]] w fun e w'=>e=.returned (.tuple #[])/\
   w'.ownsRow base 145 3 (.slice A L.length c) L.length ((L.mergeSort leB).flatMap (oL f))/\Kept (fun k=>(Value.slice A L.length c).ownBlock=some k) w w':=by
 rcases h.2 with⟨hv,hn⟩|⟨g,cap,cur,hv,hbase,hb,h1,h2,h3,h4⟩
 ·have hl:L=[]:=lE0 hn;subst hl;refine(OG A c _ w).mono ?_;rintro e w' ⟨rfl,rfl⟩;exact⟨rfl,by simpa using h,Kept.refl _ _⟩
 ·injection hv with hA hn hc;subst hA;subst hc;have eg:∀args w,(callFunc 83 args).run Tryz.prog w=.ok (.enter 83 args) w:=enters_of Tryz.func83 (by kernel_rfl) rfl;have hfl:(flatK (oL f) 3 L.toArray)=(L.flatMap (oL f)).toArray:=Gu (oL f) 3 (by decide) (Cj f) L;have hH:HoldsK (oL f) 3 w g 0 L.toArray:=by unfold HoldsK;rw[hfl];exact Gq hb (by rw[xP];exact h4)
  have hg:g<w.heap.size:=(Array.getElem?_eq_some_iff.1 hb).1;have hc:=AnyQ.slices_SortFunc_total QX 3 Tryz.isAgg145 Tryz.sizeOf145 (oL f) (Cj f) (UW f) vI XH 83 #[] g 0 c L.toArray w eg (UT f g 0 _ w) hH hg (by simp;omega) XI;have e1:L.toArray.size=L.length:=by simp
  rw[e1]at hc;refine Calls.mono hc ?_;rintro e w' ⟨rfl,n,os,rfl⟩;have e2:L.toArray.toList=L:=rfl;rw[e2,US];have abm:(flatK (oL f) 3 (L.mergeSort leB).toArray)=((L.mergeSort leB).flatMap (oL f)).toArray:=Gu (oL f) 3 (by decide) (Cj f) _;unfold sortWorldK putRowK;rw[abm];refine⟨rfl,Gt (by rw[xP,List.length_mergeSort]) hbase hb h1 h2 h3,(Kept.refl _ _).grownBy (Gs _) fun k hk=>by injection hk with hk;subst hk;exact .inl rfl⟩

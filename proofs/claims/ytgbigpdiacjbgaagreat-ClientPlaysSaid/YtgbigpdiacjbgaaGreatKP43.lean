/- Part 44. -/
import Derived.Test.YtgbigpdiacjbgaaGreatKP08
set_option linter.unusedSimpArgs false
set_option linter.unusedVariables false
set_option maxHeartbeats 32000000
set_option maxRecDepth 100000
namespace Go.Proofs.YtgbigpdiacjbgaaGreat
open Go.RowKit
namespace Keys
theorem ng(s:ByteArray)(w:World):
  Calls Tryz.prog 117 #[.string s] w fun e w'=>e=.returned (.int .i64 (if s.size<1\/8<s.size then 10 else 0))/\w=w':=by
 have hc:s.size<1\/(¬s.size<1/\8<s.size)\/(¬s.size<1/\¬8<s.size):=by omega
 rcases hc with h|⟨h,h2⟩|⟨h,h2⟩
 all_goals
  go_enter Tryz.func117,Tryz.ntmps117
  go_wp2
  go_ret
  simp[*]
theorem zl(s:ByteArray)(w:World):
  Calls Tryz.prog 86 #[.string s] w fun e w'=>e=.returned (.int .i64 (if s.size<1\/8<s.size then 10 else 0))/\w=w':=by
 have hl:s.toList.length=s.size:=by rw[ByteArray.toList_eq];simp
 by_cases h:s.size<1\/8<s.size
 ·rw[if_pos h];refine QM s w ?_;rcases h with h|h
  ·exact .inl (by rw[List.isEmpty_iff];exact lE0 (by omega))
  ·exact .inr h
 ·rw[if_neg h];refine UL s w ?_ (by omega);rw[List.isEmpty_eq_false_iff];intro e;rw[e]at hl;simp at hl;omega
theorem Nu(l:List UInt8)(n:Nat):∀k,k<=n->jM (l.take n) k=jM l k:=by
 intro k;induction k with
 |zero=>intro _;rfl
 |succ k ih=>
  intro h;rw[jM,jM,ih (by omega)];have e:(l.take n).getD k 0=l.getD k 0:=by rw[List.getD_eq_getElem?_getD,List.getD_eq_getElem?_getD,List.getElem?_take,if_pos (by omega)]
  rw[e,List.take_take,show min k n=k by omega]
theorem V9(W:World)(s:ByteArray):∃W1 cap,(convert 9 205 (.string s)).run Tryz.prog W=.ok (.slice (some ⟨W.heap.size,0,none⟩) s.size cap) W1/\s.size<=cap/\Lib.Bytes W1 W.heap.size 0 s/\(∀i,i<s.size->W1.frozen? ⟨W.heap.size,i,none⟩=false)/\Below W.heap.size W W1/\W.heap.size<W1.heap.size:=by
 refine⟨_,_,run_bytes_of_string W 9 205 5 s Tryz.underlying9 Tryz.underlying205 Tryz.underlying5,?_,?_,?_,?_,?_⟩
 ·exact grownCap_ge _ _ _ _
 ·intro i hi;have h1:=cell_of_row (W.drew.alloc (.cells (bytesRow s (grownCap W s.size 0 5)) 5 ((bytesRow s (grownCap W s.size 0 5)).size,(bytesRow s (grownCap W s.size 0 5)).size+1))) W.heap.size i _ _ _ (heap_alloc_new W.drew _);rw[Nat.zero_add,h1,bytesRow_at s _ i (by simpa using hi)];rfl
 ·intro i hi;have hsz:i<(bytesRow s (grownCap W s.size 0 5)).size:=by have:=grownCap_ge W s.size 0 5;simp[bytesRow];omega
  have h1:=heap_alloc_new W.drew (.cells (bytesRow s (grownCap W s.size 0 5)) 5 ((bytesRow s (grownCap W s.size 0 5)).size,(bytesRow s (grownCap W s.size 0 5)).size+1));unfold World.frozen?
  have h2:W.drew.heap.size=W.heap.size:=rfl;rw[h2]at h1;simp only[h1];simp;omega
 ·exact((Below.refl _ _).drew).alloc (Nat.le_refl _) _
 ·simp
theorem PY(s:ByteArray)(w:World)(h:8<=s.size)(h':s.size<=maxLen):
  Calls Tryz.prog 122 #[.string s] w (QN (jM s.data.toList 8) w.heap.size w):=by
 unfold maxLen at h';obtain⟨t,ht⟩:∃t,t=s.extract 0 8:=⟨_,rfl⟩;have Xn:t.size=8:=by rw[ht];simp;omega
 have htl:jM s.data.toList 8=jM t.data.toList 8:=by rw[ht,Lib.extract_data];simp only[List.drop_zero,Nat.sub_zero];exact(Nu _ 8 8 (Nat.le_refl _)).symm
 obtain⟨W1,cap,hcv,hcap,hby,hfr,hbl,hlt⟩:=V9 w t;rw[ht]at hcv;rw[Xn]at hcap;have hts:(s.extract 0 8).size=8:=by rw[<-ht,Xn]
 rw[hts]at hcv;have gU:=ah htl;clear htl;have HBY:=ah hby;clear hby;have QV:=ah hfr;clear hfr;have Xj:=ah hbl;clear hbl;have HT8:=ah Xn;clear Xn hts ht;go_enter Tryz.func122,Tryz.ntmps122;go_wp2_with fail;clear hcv;go_loop [3] (fun v3=>∃k:Nat,k<=8/\v3=.slice (some ⟨w.heap.size,0,none⟩) k cap/\jM t.data.toList 8=jM t.data.toList k) (fun v3=>match v3 with| .slice _ n _=>n|_=>0)
 case atStart=>exact⟨8,Nat.le_refl _,rfl,rfl⟩
 case round=>
  obtain⟨k,hk,rfl,he⟩:=hrel;have HE:=ah he;clear he;cases k with
  |zero=>
   go_wp2;go_ret;exact⟨_,rfl,by rw[gU.out,HE.out];rfl,Xj.out⟩
  |succ m=>
   have hm8:m<t.size:=by have:=HT8.out;omega
   have c0:W1.cell? ⟨w.heap.size,m,none⟩=some (.int .u8 (t[m].toNat:Int)):=by have:=HBY.out m hm8;rwa[Nat.zero_add]at this
   have f0:=QV.out m hm8;have e2:t.data.toList.getD m 0=t[m]:=by rw[List.getD_eq_getElem?_getD,lB0 (by simpa using hm8)];rfl
   have HE2:=ah e2;clear e2;have hb:=UInt8.toNat_lt t[m];have hmc:(m:Int)<=cap:=by omega
   by_cases aaz:t[m].toNat=255
   ·have h1:((t[m].toNat:Int)==255)=true:=by simp[aaz]
    have hnx:jM t.data.toList (m+1)=jM t.data.toList m:=by rw[jM,HE2.out,if_neg (by rw[UInt8.lt_iff_toNat_lt];have:(255:UInt8).toNat=255:=rfl;omega)]
    have jT:=ah hnx;clear hnx;go_wp2;go_round
    case rel=>exact⟨m,by omega,by go_num,by rw[HE.out,jT.out]⟩
    case measure=>first|omega|(simp;done)|(simp;omega)
   ·have h1:((t[m].toNat:Int)==255)=false:=by simpa using(fun h=>aaz (by omega))
    have hnx:jM t.data.toList (m+1)=t.data.toList.take m++[t[m]+1]:=by rw[jM,HE2.out,if_pos (by rw[UInt8.lt_iff_toNat_lt];have:(255:UInt8).toNat=255:=rfl;omega)]
    have jT:=ah hnx;clear hnx;obtain⟨r,hr⟩:∃r:ByteArray,r=⟨(t.data.toList.take m++[t[m]+1]).toArray⟩:=⟨_,rfl⟩;have hrl:r.data.toList=t.data.toList.take m++[t[m]+1]:=by rw[hr]
    have hrs:r.size=m+1:=by
     have:r.data.toList.length=m+1:=by rw[hrl];simp;omega
     simpa using this
    have hrb:Lib.Bytes (W1.setCell ⟨w.heap.size,m,none⟩ (.int .u8 ((t[m].toNat:Int)+1))) w.heap.size 0 r:=by
     intro i hi;rw[Nat.zero_add];have hil:r.data.toList[i]? =some r[i]:=by rw[lB0 (by simpa using hi)];rfl
     rw[hrl]at hil;by_cases him:i=m
     ·subst him;rw[World.cell?_setCell_same _ _ _ c0];rw[List.getElem?_append_right (by simp;omega)]at hil;have:i-(t.data.toList.take i).length=0:=by simp;omega
      rw[this]at hil;simp at hil;rw[<-hil];have e1:(t[i]+1).toNat=t[i].toNat+1:=by rw[UInt8.toNat_add];have:(1:UInt8).toNat=1:=rfl;omega
      rw[e1];rfl
     ·have hlt3:i<m:=by omega
      rw[World.cell?_setCell_other _ _ _ _ (fun h:(⟨w.heap.size,m,none⟩:Addr)=⟨w.heap.size,i,none⟩=>him (by injection h with _ h;exact h.symm))];rw[List.getElem?_append_left (by simp;omega),List.getElem?_take,if_pos hlt3]at hil;have h3:=HBY.out i (by omega);rw[Nat.zero_add]at h3;rw[h3];have h4:t.data.toList[i]? =some t[i]:=by rw[lB0 (by simp;omega)];rfl
      rw[h4]at hil;injection hil with hil;rw[hil]
    have hcv2:=Lib.run_convert_whole (P:=Tryz.prog) (W1.setCell ⟨w.heap.size,m,none⟩ (.int .u8 ((t[m].toNat:Int)+1))) 205 5 9 Tryz.underlying205 Tryz.underlying5 Tryz.underlying9 w.heap.size 0 r hrb cap;rw[hrs]at hcv2;have HRL:=ah hrl;clear hrl hr hrs hrb;go_wp2;go_ret;exact⟨r,rfl,by rw[HRL.out,gU.out,HE.out,jT.out],Xj.out.trans (((Kept.refl (fun k=>k=w.heap.size) W1).put (.inl rfl)).below (by omega) (fun k hk=>by omega))⟩
theorem Nv(s:ByteArray)(w:World)(h:s.size<8):
  Calls Tryz.prog 122 #[.string s] w (QN (s.data.toList++[0]) w.heap.size w):=by
 have hcv:=zJ (w.alloc (Obj.cells #[Value.int IntKind.u8 0] 5)) w.heap.size 0 1 (by omega) (by omega) (by simp);go_enter Tryz.func122,Tryz.ntmps122;go_wp2;go_ret;exact⟨_,rfl,by rw[ByteArray.data_append,Array.toList_append],(Below.refl _ _).alloc (Nat.le_refl _) _⟩
theorem AA(s:ByteArray)(w:World)(h':s.size<=maxLen):Calls Tryz.prog 122 #[.string s] w (QN (nextL s.data.toList) w.heap.size w):=by
 have hl:s.data.toList.length=s.size:=by simp
 unfold nextL;by_cases h:s.size<8
 ·rw[if_pos (by omega)];exact Nv s w h
 ·rw[if_neg (by omega)];exact PY s w (by omega) h'

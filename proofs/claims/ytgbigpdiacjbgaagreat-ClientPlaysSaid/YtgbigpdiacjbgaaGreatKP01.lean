/- Part 2. -/
import Derived.Test.YtgbigpdiacjbgaaGreatKP00
import Derived.Test.YtgbigpdiacjbgaaGreatChecked
import Derived.WalkSpells
import Derived.WalkLawsBesides
import Derived.BigQuiet
import Derived.Deep.OwnRows
import Derived.Lib.SlBytesRow
import Derived.Shelf.Strings.BuilderK
import Derived.Deep.RegionHeld3
set_option linter.unusedSimpArgs false
set_option linter.unusedVariables false
set_option maxHeartbeats 32000000
set_option maxRecDepth 100000
namespace Go.Proofs.YtgbigpdiacjbgaaGreat
open Go.RowKit
namespace Vn
open Ops (fE bl)
theorem Qp:Elem Tryz.prog 205 5 1 1:=
 by
 obtain⟨i0,hi,hz0,hz1,hz2⟩:=info_parts (show(Tryz.prog.info? 5).map (fun i=>(i.zero,i.size,i.bytes))=some (some (.int .u8 0),1,1) by kernel_rfl)
 exact⟨Tryz.underlying205,⟨i0,_,hi,hz0,hz1,hz2,rfl⟩,by decide⟩
def bV(e:TypeId)(size B:Nat)(w:World)(A:Option Addr)(n c:Nat)(xs:List Value):Prop:=
 w.ownsRow 0 e size (.slice A n c) n xs/\∀k,(Value.slice A n c).ownBlock=some k->B<=k
theorem bV.kept{e:TypeId}{size B n c:Nat}{w w':World}{A:Option Addr}{xs:List Value}(h:bV e size B w A n c xs)(hk:Kept aj w w'):bV e size B w' A n c xs:=
 ⟨aP h.1 hk (fun _ _ x=>x),h.2⟩
theorem bV.snoc{e:TypeId}{size B n c n' c':Nat}{w w1 w':World}{A A':Option Addr}{xs ys:List Value}(h:bV e size B w A n c xs)(hB:B<=w1.heap.size)(ho:w'.ownsRow 0 e size (.slice A' n' c') n' ys)
  (ha:(Value.slice A' n' c').ownBlock=(Value.slice A n c).ownBlock\/(Value.slice A' n' c').ownBlock=some w1.heap.size):bV e size B w' A' n' c' ys:=
 ⟨ho,fun k hk=>by
  rcases ha with e1|e1
  ·exact h.2 k (e1.symm.trans hk)
  ·rw[hk]at e1;injection e1 with e1;omega⟩
theorem zJ(W:World)(b:Nat)(n:Int)(c:Nat)(hn:0<=n)(hn':n<256)(hc:W.cell? ⟨b,0,none⟩=some (.int .u8 n)):
  (convert 205 9 (.slice (some ⟨b,0,none⟩) 1 c)).run Tryz.prog W=.ok (.string ⟨#[UInt8.ofNat n.toNat]⟩) W:=by
 refine Lib.run_convert_whole (P:=Tryz.prog) W 205 5 9 Tryz.underlying205 Tryz.underlying5 Tryz.underlying9 b 0 ⟨#[UInt8.ofNat n.toNat]⟩ ?_ c;intro i hi;have h0:i=0:=by have:i<1:=hi;omega
 subst h0;rw[Nat.add_zero,hc];show _=some (Value.int IntKind.u8 ((UInt8.ofNat n.toNat).toNat:Int));congr 2;simp;omega
theorem JQ(W:World)(b:Nat)(l:List UInt8)(c:Nat)(h:∀(i:Nat) x,l[i]? =some x->W.cell? ⟨b,i,none⟩=some (.int .u8 x.toNat)):
  (convert 205 9 (.slice (some ⟨b,0,none⟩) l.length c)).run Tryz.prog W=.ok (.string (fE l)) W:=by
 have hs:(fE l).size=l.length:=by simp[fE,ByteArray.size]
 rw[<-hs];refine Lib.run_convert_whole (P:=Tryz.prog) W 205 5 9 Tryz.underlying205 Tryz.underlying5 Tryz.underlying9 b 0 (fE l) ?_ c;intro i hi;have hi':i<l.length:=by omega
 rw[Nat.zero_add,h i l[i] (lB0 hi')];rfl
theorem F4(n:Nat)(hn:n<18446744073709551616)(w:World):Calls Tryz.prog 169 #[.int .u64 n] w fun e w'=>e=.returned (.int .i64 (needs n))/\w=w':=by
 have h8:=vN hn;go_enter Tryz.func169,Tryz.ntmps169;go_wp2;go_step3;go_wp2;go_step3;go_wp2;go_loop [0,3] (fun v0 v3=>∃m k:Nat,v0=.int .u64 m/\v3=.int .i64 k/\m<18446744073709551616/\k+needs m=needs n) (fun v0 _=>(intOf v0).toNat)
 case atStart=>exact⟨n,0,rfl,rfl,hn,by omega⟩
 case round=>
  obtain⟨m,k,rfl,rfl,hm,he⟩:=hrel;have hp:=yF m;have hk:k<8:=by omega
  by_cases h0:m<256
  ·have e1:=uT h0;have hz:m/256=0:=by omega
   have hz2:(m:Int)/256=0:=by omega
   have hkn:k+1=needs n:=by omega
   have HE:=ah he;clear he;have HK:=ah hkn;clear hkn e1 hp h8;go_wp2;go_ret;exact⟨by rw[<-HK.out];simp,rfl⟩
  ·have e1:=yG h0;have hz:¬m/256=0:=by omega
   have hz2:¬(m:Int)/256=0:=by omega
   have HE:=ah he;clear he;have WG:=ah e1;clear e1 hp h8;go_wp2;go_round
   case rel=>exact⟨m/256,k+1,by go_num,by go_num,by omega,by rw[<-HE.out,WG.out];omega⟩
   case measure=>simp[intOf];omega
theorem Oh(n:Nat)(hn:n<18446744073709551616)(w:World):Calls Tryz.prog 177 #[.int .u64 n] w fun e w'=>e=.returned (.int .i64 (needs n))/\w=w':=by
 have h8:=vN hn;go_enter Tryz.func177,Tryz.ntmps177;go_wp2_with fail;go_loop [3,4] (fun v3 v4=>∃m k:Nat,v3=.int .i64 k/\v4=.int .u64 m/\m<18446744073709551616/\k+(if m=0 then 0 else needs m)=needs n) (fun _ v4=>(intOf v4).toNat)
 case atStart=>
  refine⟨n/256,1,rfl,by go_num,by omega,?_⟩;by_cases h0:n<256
  ·rw[uT h0,if_pos (by omega)]
  ·rw[yG h0,if_neg (by omega)]
 case round=>
  obtain⟨m,k,rfl,rfl,hm,he⟩:=hrel;by_cases h0:m=0
  ·subst h0;rw[if_pos rfl,Nat.add_zero]at he;have HE:=ah he;clear he;go_wp2;go_ret;exact⟨by rw[<-HE.out];rfl,rfl⟩
  ·rw[if_neg h0]at he;have hp:=yF m;have hk:k<8:=by omega
   have hm0:(0:Int)<m:=by omega
   have HE:=ah he;clear he;clear hp;go_wp2;go_round
   case rel=>
    refine⟨m/256,k+1,by go_num,by go_num,by omega,?_⟩;rw[<-HE.out];by_cases h1:m<256
    ·rw[uT h1,if_pos (by omega)]
    ·rw[yG h1,if_neg (by omega)];omega
   case measure=>simp[intOf];omega
theorem Xx(g i:Nat):((⟨g,0,none⟩:Addr).add i)=⟨g,i,none⟩:=by unfold Addr.add;split<;>simp_all
theorem C5(l:List UInt8)(i:Nat)(x:UInt8)(h:l[i]? =some x):(Lib.byteCells l)[i]? =some (.int .u8 x.toNat):=by simp[Lib.byteCells,h]
theorem Fg(n:Nat)(hn:n<18446744073709551616)(w:World):Calls Tryz.prog 129 #[.int .u64 n] w fun e w'=>e=.returned (.string (fE (put n)))/\Kept aj w w':=by
 by_cases hs:n<248
 ·have hp:put n=[UInt8.ofNat n]:=sV hs;rw[hp];have hcv:=zJ (w.alloc (Obj.cells #[Value.int .u8 n] 5)) w.heap.size n 1 (by omega) (by omega) (by simp);have hs':(n:Int)<248:=by omega
  clear hp;go_enter Tryz.func129,Tryz.ntmps129;go_wp2;go_ret;exact⟨rfl,(Kept.refl _ _).alloc _⟩
 ·obtain⟨i0,hi,hz0,hz1,hz2⟩:=info_parts (show(Tryz.prog.info? 5).map (fun i=>(i.zero,i.size,i.bytes))=some (some (.int .u8 0),1,1) by kernel_rfl);have oq:=vN hn;have hn1:=yF n;have hnd:=F4 n hn;have hp:=zF hs;obtain⟨k,hk⟩:∃k,needs n=k:=⟨_,rfl⟩;rw[hk]at oq hn1 hnd hp;have HP:=ah hp;clear hp hk;have HN:=ah hnd;clear hnd;have hs':¬(n:Int)<248:=by omega
  go_enter Tryz.func129,Tryz.ntmps129;go_wp2_with fail;refine(HN.out _).mono ?_;rintro e w2 ⟨rfl,rfl⟩;go_wp2_with (refine wpList_make_own _ rfl _ _ 205 rfl 0 5 i0 (.int .u8 0) 1 Tryz.underlying205 hi hz0 hz1 .i64 .i64 9 9 rfl rfl rfl (by rw[hz2];decide) (by decide) (Nat.zero_le _) ?_);intro w3 hown hg;have hk3:Kept aj w w3:=(Kept.refl _ _).grown hg (fun k hk=>by cases hk);have hz3:w.heap.size<=w3.heap.size:=hk3.size;have hrow:bV 5 1 w.heap.size w3 (some ⟨w.heap.size,0,none⟩) 0 9 []:=⟨hown,fun k hk=>oV hk (Nat.le_refl _)⟩;have dX:=ah hrow;clear hrow hown hg;have dI:=ah hk3;clear hk3;go_wp2_with (at_builtin;refine bH Qp (.tmp 15) (.tmp 19) rfl rfl (Value.slice _ 0 9) rfl ((dX.out.kept ((Kept.refl _ _).alloc _)).1) 1 rfl (Src.kW (m:=1) (cs:=#[.int .u8 (247+k)]) (Has.dQ _ 5 _ (by simp)) rfl) (by intro u hu;simp at hu;subst hu;rfl) (by decide) (by decide) ?_;intro A c w4 Aw hg4 ha4);have WH:=dI.out.size;have hn3:bV 5 1 w.heap.size w4 A 1 c [.int .u8 (247+k)]:=dX.out.snoc (by simp;omega) Aw ha4;have hk4:Kept aj w w4:=(dI.out.alloc _).grown hg4 (fun k hk=> .inr (dX.out.2 k hk));clear Aw hg4 ha4;have JR:=ah hn3;clear hn3;have iU:=ah hk4;clear hk4;go_loopw [4,22] (fun v4 v22 wr=>∃(i:Nat) (A:Option Addr) (c:Nat),i<=k/\v22=.int .i64 i/\v4=.slice A (1+i) c/\bV 5 1 w.heap.size wr A (1+i) c (Lib.byteCells (kX ((247+k)::(be k n).take i)))/\Kept aj w wr) (fun _ v22 _=>k-(intOf v22).toNat)
  case atStart=>
   refine⟨0,A,c,Nat.zero_le _,rfl,rfl,?_,iU.out⟩;have e:Lib.byteCells (kX ((247+k)::(be k n).take 0))=[.int .u8 (247+k)]:=by simp[Lib.byteCells,kX];omega
   rw[e];exact JR.out
  case round=>
   obtain⟨i,A,c,hi,rfl,rfl,hrow,hk⟩:=hrel;have dX:=ah hrow;clear hrow;have JU:=ah hk;clear hk;by_cases hik:i<k
   ·have e1:((8:Int)*(↑k-1-↑i))=((8*(k-1-i):Nat):Int):=by omega
    have e2:8*(k-1-i)<64:=by omega
    have e3:(Value.int .u8 ((n:Int)/2^(8*(k-1-i))%256))=.int .u8 ((UInt8.ofNat (n/256^(k-1-i)%256)).toNat:Nat):=by
     have h2:((2:Int)^(8*(k-1-i)))=((256^(k-1-i):Nat):Int):=by
      have:(256:Nat)^(k-1-i)=2^(8*(k-1-i)):=by rw[Nat.pow_mul]
      rw[this,Int.natCast_pow];rfl
     have h3:(UInt8.ofNat (n/256^(k-1-i)%256)).toNat=n/256^(k-1-i)%256:=by rw[UInt8.toNat_ofNat'];omega
     rw[h2,h3];norm_cast
    have e4:Lib.byteCells (kX ((247+k)::(be k n).take (i+1)))=Lib.byteCells (kX ((247+k)::(be k n).take i))++[.int .u8 ((n:Int)/2^(8*(k-1-i))%256)]:=by rw[JO k n i hik,e3];simp[Lib.byteCells,kX]
    have HE4:=ah e4;clear e4 e3;have hS:1+i+1<=maxLen:=by unfold maxLen;omega
    have hS2:(1+i+1)*1<=140737488355328:=by omega
    have HS:=ah hS;clear hS;have HS2:=ah hS2;clear hS2;have hzr:=JU.out.size;have HZR:=ah hzr;clear hzr;go_wp2_with (at_builtin;refine bH Qp (.tmp 25) (.tmp 34) rfl rfl (Value.slice A (1+i) c) rfl ((dX.out.kept ((Kept.refl _ _).alloc _)).1) 1 rfl (Src.kW (m:=1) (cs:=#[.int .u8 ((n:Int)/2^(8*(k-1-i))%256)]) (Has.dQ _ 5 _ (by simp)) rfl) (by intro u hu;simp at hu;subst hu;rfl) HS.out HS2.out ?_;intro A5 c5 w5 vO hg5 tu);have tC:bV 5 1 w.heap.size w5 A5 (1+i+1) c5 (Lib.byteCells (kX ((247+k)::(be k n).take (i+1)))):=by rw[HE4.out];exact dX.out.snoc (by simp;have:=HZR.out;omega) vO tu
    have hk5:Kept aj w w5:=(JU.out.alloc _).grown hg5 (fun k hk=> .inr (dX.out.2 k hk));clear vO hg5 tu;have NG:=ah tC;clear tC;have dK:=ah hk5;clear hk5;go_wp2;go_roundw
    case rel=>exact⟨i+1,A5,c5,by omega,by go_num,rfl,NG.out,dK.out⟩
    case measure=>simp[intOf];omega
   ·obtain rfl:i=k:=by omega
    have hform:=dX.out.1.form (by omega);obtain⟨b,cap,hv,_,hlt⟩:=hform;injection hv with hA _ hC;subst hA;subst hC;have hlen:(kX ((247+i)::(be i n).take i)).length=1+i:=by simp[kX,nD];omega
    have hcv:=JQ wr b (kX ((247+i)::(be i n).take i)) c (fun j x hx=>by have:=dX.out.1.cells (g:=b) rfl j _ (C5 _ _ _ hx);rwa[Xx]at this)
    rw[hlen,List.take_of_length_le (by rw[nD];exact Nat.le_refl _),<-HP.out]at hcv;go_wp2;go_ret;exact⟨rfl,JU.out⟩
theorem NH(m:Nat):(madeCells #[Value.int .u8 0] m)=(List.replicate m (.int .u8 0)).toArray:=by have h:=toList_madeCells_one (.int .u8 0) m;rw[<-h,Array.toArray_toList]
theorem set_tail(u:Value)(j:Nat)(z d:Value)(T T':List Value)(h:T'=d::T):(u::(List.replicate (j+1) z++T)).toArray.setIfInBounds (j+1) d=(u::(List.replicate j z++T')).toArray:=by subst h;rw[List.setIfInBounds_toArray];congr 1;rw[List.set_cons_succ,List.replicate_succ',List.append_assoc,List.set_append_right _ _ (by simp)];simp
theorem B6(n:Nat)(hn:n<18446744073709551616)(w:World):Calls Tryz.prog 149 #[.int .u64 n] w fun e w'=>e=.returned (.string (fE (put n)))/\Kept aj w w':=by
 by_cases hs:n<248
 ·have hp:put n=[UInt8.ofNat n]:=sV hs;rw[hp];have hcv:=zJ (w.alloc (Obj.cells #[Value.int .u8 n] 5)) w.heap.size n 1 (by omega) (by omega) (by simp);have hs':(n:Int)<248:=by omega
  clear hp;go_enter Tryz.func149,Tryz.ntmps149;go_wp2;go_ret;exact⟨rfl,(Kept.refl _ _).alloc _⟩
 ·obtain⟨i0,hi,hz0,hz1,hz2⟩:=info_parts (show(Tryz.prog.info? 5).map (fun i=>(i.zero,i.size,i.bytes))=some (some (.int .u8 0),1,1) by kernel_rfl);have oq:=vN hn;have hn1:=yF n;have hnd:=Oh n hn;have hp:=zF hs;obtain⟨k,hk⟩:∃k,needs n=k:=⟨_,rfl⟩;rw[hk]at oq hn1 hnd hp;have HP:=ah hp;clear hp hk;have HN:=ah hnd;clear hnd;have hs':¬(n:Int)<248:=by omega
  go_enter Tryz.func149,Tryz.ntmps149;go_wp2_with fail;refine(HN.out _).mono ?_;rintro e w2 ⟨rfl,rfl⟩;have hmk:=run_make_row' (P:=Tryz.prog) 205 5 (.int .u8 0) 1 Tryz.underlying205 (by kernel_rfl) rfl .i64 .i64 (k+1) (by omega) (by omega);have ec:((k+1:Nat):Int)=(k:Int)+1:=by omega
  rw[ec]at hmk;have h0:Has (w.alloc (.cells (madeCells #[.int .u8 0] (k+1)) 5)) w.heap.size 5 (List.replicate (k+1) (.int .u8 0)).toArray:=by rw[<-NH];exact Has.new _ _ _
  have c0:(w.alloc (.cells (madeCells #[.int .u8 0] (k+1)) 5)).cell? ⟨w.heap.size,0,none⟩=some (.int .u8 0):=by rw[h0.cell];simp
  have f0:=h0.frozen 0;have H0:=ah h0;clear h0;go_wp2;go_loopw [0,5] (fun v0 v5 wr=>∃(i:Nat),i<=k/\v5=.int .i64 i/\v0=.int .u64 ((n/256^(k-i):Nat):Int)/\Has wr w.heap.size 5 (.int .u8 (247+k)::(List.replicate i (.int .u8 0)++Lib.byteCells (kX (be (k-i) n)))).toArray/\Kept aj w wr) (fun _ v5 _=>(intOf v5).toNat)
  case atStart=>
   refine⟨k,Nat.le_refl _,rfl,by simp,?_,by(repeat'(first|(with_reducible first|exact ay|apply aA|apply aB|apply aC|apply aF)|(right;simp;done)))⟩;have e:(.int .u8 (247+k)::(List.replicate k (.int .u8 0)++Lib.byteCells (kX (be (k-k) n)))).toArray=(madeCells #[Value.int .u8 0] (k+1)).setIfInBounds 0 (.int .u8 (247+k)):=by rw[NH];simp[be,kX,Lib.byteCells,List.replicate_succ]
   rw[e];exact Has.new _ _ _
  case round=>
   obtain⟨i,hi,rfl,rfl,hrow,hk⟩:=hrel;have dX:=ah hrow;clear hrow;have JU:=ah hk;clear hk;by_cases hik:0<i
   ·have hik':(0:Int)<i:=by omega
    have c1:wr.cell? ⟨w.heap.size,i,none⟩=some (.int .u8 0):=by rw[dX.out.cell];obtain⟨j,rfl⟩:∃j,i=j+1:=⟨i-1,by omega⟩;simp only[lF0,List.getElem?_cons_succ];rw[List.getElem?_append_left (by simp)];simp
    have f1:=dX.out.frozen i;obtain⟨m,hm⟩:∃m,n/256^(k-i)=m:=⟨_,rfl⟩;rw[hm];have Bd:m<=n:=by rw[<-hm];exact Nat.div_le_self _ _
    have HM:=ah hm;clear hm;go_wp2;obtain⟨j,rfl⟩:∃j,i=j+1:=⟨i-1,by omega⟩;have ej:k-j=1+(k-(j+1)):=by omega
    refine⟨⟨j,by omega,by go_num,?_,Has.aQ dX.out (set_tail _ j _ _ _ _ ?_),JU.out.put (.inr (Nat.le_refl _))⟩,by simp[intOf]⟩
    ·rw[ej,Nat.add_comm 1,Nat.pow_succ,<-Nat.div_div_eq_div_mul,HM.out];go_num
    ·rw[ej,Uw,HM.out];have h3:(UInt8.ofNat (m%256)).toNat=m%256:=by rw[UInt8.toNat_ofNat'];omega
     simp only[be,List.nil_append,List.singleton_append,kX,List.map_cons,Lib.byteCells,h3];congr 2
   ·obtain rfl:i=0:=by omega
    have hlen:(kX ((247+k)::be k n)).length=k+1:=by simp[kX,nD]
    have hcv:=JQ wr w.heap.size (kX ((247+k)::be k n)) (k+1) (fun j x hx=>by
     rw[dX.out.cell];have e:(Value.int .u8 (247+k)::(List.replicate 0 (.int .u8 0)++Lib.byteCells (kX (be (k-0) n))))=Lib.byteCells (kX ((247+k)::be k n)):=by
      have h3:(UInt8.ofNat (247+k)).toNat=247+k:=by rw[UInt8.toNat_ofNat'];omega
      simp only[List.replicate_zero,List.nil_append,Nat.sub_zero,kX,Lib.byteCells,List.map_cons,h3];congr 2
     rw[e,lF0];exact C5 _ _ _ hx)
    rw[hlen,<-HP.out]at hcv;go_wp2;go_ret;exact⟨rfl,JU.out⟩
end Vn
end Go.Proofs.YtgbigpdiacjbgaaGreat
namespace Go.Proofs.YtgbigpdiacjbgaaGreat
open Go.RowKit Go.Shelf
namespace iI
open Vn Ops
def oD(w:World)(g:Nat)(F:Nat->Prop)(bs:List UInt8):Prop:=
 ∃p v,Has w g 209 #[p,v,.int .i64 0,.bool true]/\(p=.pointer none\/p=.pointer (some ⟨g,0,none⟩))/\w.ownsRowF 0 5 1 v bs.length (Lib.byteCells bs)/\v.ownBlock≠some g/\(∀k,F k↔k=g\/v.ownBlock=some k)
theorem oD.lt{w:World}{g:Nat}{F:Nat->Prop}{bs:List UInt8}(h:oD w g F bs):∀k,F k->k<w.heap.size:=by
 obtain⟨p,v,h1,_,h3,_,h5⟩:=h;intro k hk;rcases(h5 k).1 hk with rfl|e
 ·exact h1.lt
 ·exact(h3.lt k e).2
theorem oD.kept{w w':World}{g:Nat}{F G:Nat->Prop}{bs:List UInt8}(h:oD w g F bs)(hk:Kept G w w')(hs:Sep F G):oD w' g F bs:=by
 obtain⟨p,v,h1,h2,h3,h4,h5⟩:=h;refine⟨p,v,h1.kept hk (hs g ((h5 g).2 (.inl rfl))),h2,⟨h3.1,?_⟩,h4,h5⟩;rcases h3.2 with hn|⟨k,cap,cur,fz,rfl,hb,hh,rest⟩
 ·exact .inl hn
 ·exact .inr ⟨k,cap,cur,fz,rfl,hb,(hk.block k (Array.getElem?_eq_some_iff.1 hh).1 (hs k ((h5 k).2 (.inr rfl)))).trans hh,rest⟩
theorem aaG:liesAt Tryz.prog Tryz.prog.depth 209 (4/Tryz.prog.cellsOf 209) 0 207 1=true:=by kernel_rfl
theorem WI:(Tryz.prog.info? 207).map (·.size)=some 2:=by kernel_rfl
theorem Has.shape{w:World}{g:Nat}{t:TypeId}{cs:Array Value}(h:Has w g t cs):w.shape? g=some (t,cs.size):=by unfold Has at h;simp[World.shape?,h]
theorem Oi(w:World)(b:Nat)(h0:w.cell? ⟨b,0,none⟩=some (.pointer (some ⟨b,0,none⟩))):
  Calls Tryz.prog 183 #[.pointer (some ⟨b,0,none⟩)] w fun e w'=>e=.returned (.tuple #[])/\w'=w:=by
 obtain⟨j,hj,_⟩:=Option.map_eq_some_iff.1 WI;go_enter Tryz.func183,Tryz.ntmps183;go_wp2;rw[Lib.run_neq_ptr_same w _ Tryz.underlying204 hj];go_wp2;go_end0;exact⟨rfl,rfl⟩
theorem MW(w:World)(b:Nat)(h0:w.cell? ⟨b,0,none⟩=some (.pointer none))(hsh:w.shape? b=some (209,4))(hfz:w.frozen? ⟨b,0,none⟩=false):
  Calls Tryz.prog 183 #[.pointer (some ⟨b,0,none⟩)] w fun e w'=>e=.returned (.tuple #[])/\w'=w.setCell ⟨b,0,none⟩ (.pointer (some ⟨b,0,none⟩)):=by
 obtain⟨j,hj,hjs⟩:=Option.map_eq_some_iff.1 WI;go_enter Tryz.func183,Tryz.ntmps183;go_wp2;rw[Lib.run_to_unsafe w ⟨b,0,none⟩ Tryz.underlying204 Tryz.underlying264 hj (by rw[hjs];decide) hsh (show 0<4 by decide)];simp only[Result.andThen];rw[Oper.upon_value];go_wp2;rw[run_callFunc_extern Tryz.func187 (by kernel_rfl) (by kernel_rfl) (by kernel_rfl) (e:=Extern.AbiNoEscape.same) (by kernel_rfl)];rw[Lib.run_noEscape];simp only[Result.andThen];rw[Oper.upon_value];go_wp2;rw[Lib.run_from_unsafe w ⟨b,0,none⟩ Tryz.underlying264 Tryz.underlying204 hj hsh aaG];simp only[Result.andThen];rw[Oper.upon_value];go_wp2;go_end0;exact⟨rfl,rfl⟩
theorem oD.used{w:World}{g:Nat}{F:Nat->Prop}{bs:List UInt8}(h:oD w g F bs):∃w',(w'=w\/w'=w.setCell ⟨g,0,none⟩ (.pointer (some ⟨g,0,none⟩)))/\Kept F w w'/\
  (Calls Tryz.prog 183 #[.pointer (some ⟨g,0,none⟩)] w fun e w2=>e=.returned (.tuple #[])/\w2=w')/\
  ∃v,Has w' g 209 #[.pointer (some ⟨g,0,none⟩),v,.int .i64 0,.bool true]/\w'.ownsRowF 0 5 1 v bs.length (Lib.byteCells bs)/\v.ownBlock≠some g/\(∀k,F k↔k=g\/v.ownBlock=some k):=by
 obtain⟨p,v,h1,h2,h3,h4,h5⟩:=h;rcases h2 with rfl|rfl
 ·refine⟨_,.inr rfl,(Kept.refl _ _).put (.inl ((h5 g).2 (.inl rfl))),MW w g (h1.cell 0) (Has.shape h1) (h1.frozen 0),v,h1.put 0 _,?_,h4,h5⟩;exact h3.kept (row:=some g) ⟨rfl,rfl,rfl,by simp[World.setCell],fun k _ hk=>Below.heap_setCell _ _ _ _ (fun e=>hk (by simp[e]))⟩ (.inr h4)
 ·exact⟨w,.inl rfl,Kept.refl _ _,Oi w g (h1.cell 0),v,h1,h3,h4,h5⟩
theorem MX(s:ByteArray):Lib.strCells s=Lib.byteCells (bl s):=by simp[Lib.strCells,Lib.byteCells,bl]
theorem byteCells_append(a b:List UInt8):Lib.byteCells (a++b)=Lib.byteCells a++Lib.byteCells b:=by simp[Lib.byteCells]
theorem Fh{P:Program}(w:World)(t u ty e:TypeId)(i:TypeInfo)(ht:P.underlying t=some (.slice e))(hu:P.underlying u=some .string)(hi:P.info? e=some i)(hz:i.zero=some (.int .u8 0))
  (hsize:i.size=1) (hby:i.bytes=1) (v:Value) (n:Nat) (xs:List Value) (hown:w.ownsRowF 0 e 1 v n xs) (s:ByteArray) (h63:n+s.size<=maxLen) (hbytes:n+s.size<=140737488355328):
  ∃v' w',(Builtin.append_ #[t,u] ty #[v,.string s]).run P w=.ok v' w'/\w'.ownsRowF 0 e 1 v' (n+s.size) (xs++Lib.strCells s)/\w.grownBy w' v.ownBlock/\(∀k,v'.ownBlock=some k->v.ownBlock=some k\/w.heap.size<=k):=by
 have hown0:=hown;rcases hown.2 with⟨rfl,rfl⟩|⟨g,cap,cur,fz,rfl,hbg,hg,hfz,hnc,hcm,hcs,htake⟩
 ·obtain⟨v',w',h1,h2,h3,h4⟩:=Lib.run_append_own_string (P:=P) w w.heap.size t u ty e i ht hu hi hz hsize hby (.slice none 0 0) 0 xs ⟨hown.1,.inl ⟨rfl,rfl⟩⟩ s h63 hbytes (Nat.le_refl _);obtain⟨v2,w2,g1,g2,_⟩:=Lib.run_append_own_string (P:=P) w 0 t u ty e i ht hu hi hz hsize hby (.slice none 0 0) 0 xs ⟨hown.1,.inl ⟨rfl,rfl⟩⟩ s h63 hbytes (Nat.zero_le _);rw[h1]at g1;injection g1 with e1 e2;subst e1;subst e2;exact⟨v',w',h1,World.ownsRowF_of g2,h3,fun k hk=> .inr ((World.ownsRowF_of h2).lt k hk).1⟩
 ·obtain⟨v',w',h1,h2,h3,_⟩:=Lib.run_append_own_stringF (P:=P) w 0 t u ty e i ht hu hi hz hsize hby _ n xs hown0 s h63 hbytes (Nat.zero_le _);refine⟨v',w',h1,h2,h3,fun k hk=> ?_⟩;have hxl:xs.length=n:=by simpa using hown.1
  by_cases hroom:n+s.size<=cap
  ·have hcs':cur.size=cap:=by simpa using hcs
   have hr:=Lib.run_append_room_stringF (P:=P) w t u ty e i ht hu hi hsize g n cap cur fz hg (by simpa using hfz) s hroom (by omega);rw[hr]at h1;injection h1 with e1 e2;subst e1;exact .inl hk
  ·have holds:∀j u,xs[j]? =some u->w.cell? ((⟨g,0,none⟩:Addr).add j)=some u:=hown.cells (g:=g) rfl;have hr:=Lib.run_append_grow_string (P:=P) w t u ty e i (.int .u8 0) ht hu hi hz ⟨g,0,none⟩ n cap xs (by rw[hsize];simpa using hxl) holds s (by omega) (by simp only[maxLen]at h63;omega) (by rw[hby];exact growslice_fits (by omega) (by omega));rw[hr]at h1;injection h1 with e1 e2;subst e1;simp[Value.ownBlock]at hk;exact .inr (by omega)
theorem ET{P:Program}{w:World}{ops:Array Oper}{rest:List Oper}{o:Oper}{a:Act}{Q:Exit->Act->World->Prop}(hgd:o.guard=none)(sl x:Operand)(t u:TypeId)
  (ho:o.op=.call {callee:=.builtin .append,args:=#[sl,x],argTypes:=#[t,u]})
  (e:TypeId) (i:TypeInfo) (ht:P.underlying t=some (.slice e)) (hu:P.underlying u=some .string) (hi:P.info? e=some i) (hz:i.zero=some (.int .u8 0))
  (hsize:i.size=1) (hby:i.bytes=1)
  (v:Value) (n:Nat) (xs:List Value) (hs:a.eval sl=v) (hown:w.ownsRowF 0 e 1 v n xs) (s:ByteArray) (hx:a.eval x=.string s)
  (h63:n+s.size<=maxLen) (hbytes:n+s.size<=140737488355328)
  (h:∀v' w',w'.ownsRowF 0 e 1 v' (n+s.size) (xs++Lib.strCells s)->w.grownBy w' v.ownBlock->(∀k,v'.ownBlock=some k->v.ownBlock=some k\/w.heap.size<=k)->wpList P ops Q rest (a.put o.dst v') w'):wpList P ops Q (o::rest) a w:=by
 refine wpList_plain hgd fun K hK=> ?_;obtain⟨v',w',hr,h2,h3,h4⟩:=Fh (P:=P) w t u o.type e i ht hu hi hz hsize hby v n xs hown s h63 hbytes;unfold Oper.wp execOp;simp only[ho,resolve,invoke,builtin,Sem.run_bind,Sem.run_pure,Result.andThen_ok,List.map_toArray,List.map_cons,List.map_nil,hs,hx,hr];exact hK _ _ (h v' w' h2 h3 h4)
theorem write_any(w:World)(g:Nat)(F:Nat->Prop)(bs:List UInt8)(s:ByteArray)(h:oD w g F bs)(hlen:bs.length+s.size<=140737488355328):
  Calls Tryz.prog 168 #[.pointer (some ⟨g,0,none⟩),.string s] w fun e w'=>e=.returned (.tuple #[.int .i64 s.size,.nilIface])/\∃F',oD w' g F' (bs++bl s)/\wE w F F'/\Kept F w w':=by
 obtain⟨i0,hi,hz0,hz1,hz2⟩:=info_parts (show(Tryz.prog.info? 5).map (fun i=>(i.zero,i.size,i.bytes))=some (some (.int .u8 0),1,1) by kernel_rfl);obtain⟨w1,hw1,hk1,hcall,v,hb,hown,hne,hF⟩:=h.used;have hsz:w1.heap.size=w.heap.size:=by rcases hw1 with rfl|rfl<;>simp[World.setCell]
 have HS:=ah hsz;clear hsz hw1;have HK:=ah hk1;clear hk1;have HC:=ah hcall;clear hcall;have lJ:=ah hne;clear hne;have HF:=ah hF;clear hF;clear h;go_enter Tryz.func168,Tryz.ntmps168;go_wp2_with fail;refine HC.out.mono ?_;rintro e w1 ⟨rfl,rfl⟩;have c0:=hb.cell 0;have c1:=hb.cell 1;simp only[lF0,List.getElem?_cons_zero,List.getElem?_cons_succ]at c0 c1;have HB:=ah hb;clear hb;go_wp2_with (at_builtin;refine ET rfl _ _ 205 9 rfl 5 i0 Tryz.underlying205 Tryz.underlying9 hi hz0 hz1 hz2 _ _ _ rfl hown s rfl ?c3 ?c4 ?_)
 case c3=>unfold maxLen;omega
 case c4=>omega
 intro v' w2 hown' hgrow hgr;have hb2:=HB.out.grown hgrow lJ.out;have d0:w2.cell? ⟨g,0,none⟩=some (.pointer (some ⟨g,0,none⟩)):=hb2.cell 0;have d1:w2.cell? ⟨g,1,none⟩=some v:=hb2.cell 1;have f1:w2.frozen? ⟨g,1,none⟩=false:=hb2.frozen 1;have HB2:=ah hb2;clear hb2;have hform:∃A n' c,v'=.slice A n' c:=by rcases hown'.2 with⟨e,_⟩|⟨k,cap,cur,fz,e,_⟩<;>exact⟨_,_,_,e⟩
 obtain⟨A,n',c,rfl⟩:=hform;have HO:=ah hown';clear hown';have HG:=ah hgrow;clear hgrow;have EU:=ah hgr;clear hgr;go_wp2;go_ret2;have hgl:g<w.heap.size:=by have:=HB.out.lt;have:=HS.out;omega
 have hne':(Value.slice A n' c).ownBlock≠some g:=fun e=>by
  rcases EU.out g e with x|x
  ·exact lJ.out x
  ·have:=HS.out;omega
 refine⟨rfl,fun k=>k=g\/(Value.slice A n' c).ownBlock=some k,⟨_,_,Has.aQ HB2.out rfl,.inr rfl,?_,hne',fun k=>Iff.rfl⟩,?_,?_⟩
 ·have h1:=HO.out.kept (w':=w2.setCell ⟨g,1,none⟩ (Value.slice A n' c)) (row:=some g) ⟨rfl,rfl,rfl,by simp[World.setCell],fun k _ hk=>Below.heap_setCell _ _ _ _ (fun e=>hk (by simp[e]))⟩ (.inr hne');rw[byteCells_append,<-MX,lA0,iw];exact h1
 ·intro k hk;rcases hk with rfl|hk
  ·exact .inl ((HF.out k).2 (.inl rfl))
  ·rcases EU.out k hk with x|x
   ·exact .inl ((HF.out k).2 (.inr x))
   ·exact .inr (by have:=HS.out;omega)
 ·have hk2:Kept F w w2:=HK.out.grown HG.out (fun k hk=> .inl ((HF.out k).2 (.inr hk)));exact hk2.put (.inl ((HF.out g).2 (.inl rfl)))
theorem MY{F:Nat->Prop}{a b:World}{g n:Nat}(h:Kept F a b)(hp:F g\/a.heap.size<=g):Kept F a (b.freeze ⟨g,0,none⟩ n):=by
 unfold World.freeze;split
 ·exact h
 ·refine⟨h.os,h.tape,h.output,?_,fun k hk hf=> ?_⟩
  ·simpa using h.size
  ·simp only[Array.getElem?_modify];rw[if_neg]
   ·exact h.block k hk hf
   ·rintro rfl;rcases hp with x|x
    ·exact hf x
    ·omega
theorem Oj(w:World)(g:Nat)(F:Nat->Prop)(bs:List UInt8)(h:oD w g F bs)(h0:bs≠[]):
  Calls Tryz.prog 134 #[.pointer (some ⟨g,0,none⟩)] w fun e w'=>e=.returned (.string (fE bs))/\Kept F w w':=by
 obtain⟨p,v,h1,_,hown,hne,hF⟩:=h;have hl0:bs.length≠0:=by simpa using h0
 obtain⟨k,cap,cur,fz,rfl,hbg,hg,hfz,hnc,hcm,hcs,htake⟩:∃k cap cur fz,v=.slice (some ⟨k,0,none⟩) bs.length cap/\0<=k/\w.heap[k]? =some (.cells cur 5 fz)/\fz.2<=bs.length*1/\bs.length<=cap/\cap<=maxLen/\cur.size=cap*1/\cur.toList.take (bs.length*1)=Lib.byteCells bs:=by
  rcases hown.2 with⟨_,hz⟩|⟨g,cap,cur,fz,hv,r⟩
  ·exact absurd hz hl0
  ·exact⟨g,cap,cur,fz,hv,r⟩
 have c1:w.drew.cell? ⟨g,1,none⟩=some (.slice (some ⟨k,0,none⟩) bs.length cap):=h1.cell 1
 have hSD:(Builtin.unsafeSliceData_ #[205] 253 #[.slice (some ⟨k,0,none⟩) bs.length cap]).run Tryz.prog w.drew=.ok (.pointer (some ⟨k,0,none⟩)) w.drew:=
  Lib.run_unsafeSliceData_row _ _ _ _ _ _ (by omega)
 have hUS:(Builtin.unsafeString_ #[253,3] 9 #[.pointer (some ⟨k,0,none⟩),.int .i64 bs.length]).run Tryz.prog w.drew=.ok (.string ⟨bs.toArray⟩) (w.drew.freeze ⟨k,0,none⟩ bs.length):=by refine Lib.run_unsafeString_row w.drew 253 3 9 5 Tryz.underlying253 (by kernel_rfl) k cur.size (by have hg':w.drew.heap[k]? =some (.cells cur 5 fz):=hg;simp[World.shape?,hg']) bs h0 (by omega) (by unfold maxLen at hcm;omega) ?_;intro j x hx;exact hown.cells (g:=k) rfl j (.int .u8 x.toNat) (by simp[Lib.byteCells,hx])
 have hk:Kept F w (w.drew.freeze ⟨k,0,none⟩ bs.length):=MY (Kept.refl F w).drew (.inl ((hF k).2 (.inr rfl)));have HK:=ah hk;clear hk;clear hF hown h1 hg hne htake;go_enter Tryz.func134,Tryz.ntmps134;go_wp2;go_region;all_goals (go_wp2;go_ret;exact⟨rfl,HK.out⟩)
theorem oD.Yy{w:World}{g:Nat}{F:Nat->Prop}{bs:List UInt8}(h:oD w g F bs):∃p v,Has w g 209 #[p,v,.int .i64 0,.bool true]:=by obtain⟨p,v,h1,_⟩:=h;exact⟨p,v,h1⟩
theorem JV(w:World)(g:Nat)(F:Nat->Prop)(bs:List UInt8)(h:oD w g F bs)(h0:bs≠[]):
  Calls Tryz.prog 90 #[.pointer (some ⟨g,0,none⟩)] w fun e w'=>e=.returned (.tuple #[.string (fE bs),.int .i64 0])/\Kept F w w':=by
 obtain⟨p,v,h1⟩:=h.Yy;have c2:=h1.cell 2;have c3:=h1.cell 3;simp only[lF0,List.getElem?_cons_zero,List.getElem?_cons_succ]at c2 c3;clear h1;have H:=ah h;clear h;go_enter Tryz.func90,Tryz.ntmps90;go_wp2_with fail;refine(Oj w g F bs H.out h0).mono ?_;rintro e w2 ⟨rfl,hk⟩;have HK:=ah hk;clear hk;go_wp2;go_ret2;exact⟨rfl,HK.out⟩
def Wrote(w:World)(g:Nat)(F:Nat->Prop)(bs:List UInt8)(e:Ending)(w':World):Prop:=e=.returned (.pointer (some ⟨g,0,none⟩))/\∃F',oD w' g F' bs/\wE w F F'/\Kept F w w'
theorem Xy{v1:Value}(w:World)(g:Nat)(c2:w.cell? ⟨g,2,none⟩=some (.int .i64 0))(c3:w.cell? ⟨g,3,none⟩=some (.bool true))(c1:w.cell? ⟨g,1,none⟩=some v1):
  Calls Tryz.prog 127 #[.pointer (some ⟨g,0,none⟩)] w fun e w'=>e=.returned (.bool false)/\w=w':=by
 go_enter Tryz.func127,Tryz.ntmps127;go_wp2;go_ret;exact⟨rfl,rfl⟩
theorem xQ(w:World)(g:Nat)(F:Nat->Prop)(bs:List UInt8)(s:ByteArray)(h:oD w g F bs)(hlen:bs.length+s.size<=140737488355328):
  Calls Tryz.prog 128 #[.pointer (some ⟨g,0,none⟩),.string s] w (Wrote w g F (bs++bl s)):=by
 obtain⟨p,v,h1⟩:=h.Yy;have hoff:=Xy (v1:=v) w g (h1.cell 2) (h1.cell 3) (h1.cell 1);have H:=ah h;clear h h1;have HO:=ah hoff;clear hoff;have hw:=write_any w g F bs s H.out hlen;have HW:=ah hw;clear hw;go_enter Tryz.func128,Tryz.ntmps128;go_wp2_with fail;refine HO.out.mono ?_;rintro e w2 ⟨rfl,rfl⟩;go_wp2_with fail;refine HW.out.mono ?_;rintro e w2 ⟨rfl,F',h1,h2,h3⟩;have HR:=ah (And.intro h1 (And.intro h2 h3));clear h1 h2 h3;go_wp2;go_ret;exact⟨rfl,F',HR.out⟩
theorem Wrote.then{w w1 w2:World}{g:Nat}{F F1:Nat->Prop}{bs:List UInt8}{e:Ending}(hz:w.heap.size<=w1.heap.size)(h1:wE w F F1)(h2:Kept F w w1)(h:Wrote w1 g F1 bs e w2):Wrote w g F bs e w2:=by obtain⟨he,F2,g1,g2,g3⟩:=h;exact⟨he,F2,g1,h1.trans g2 hz,h2.trans g3 fun k hk=>h1 k hk⟩
theorem Wrote.quiet{w w1 w2:World}{g:Nat}{F:Nat->Prop}{bs:List UInt8}{e:Ending}(h2:Kept aj w w1)(h:Wrote w1 g F bs e w2):Wrote w g F bs e w2:=
 Wrote.then h2.size (wE.refl _ _) (h2.mono fun _ x=>x.elim) h
theorem nS(l:List UInt8):(fE l).size=l.length:=by simp[fE,ByteArray.size]
theorem wF(F:Nat->Prop):Sep F aj:=fun _ _ x=>x
theorem JW(w:World)(g:Nat)(F:Nat->Prop)(bs:List UInt8)(n:Nat)(hn:n<=9223372036854775807)(h:oD w g F bs)(hlen:bs.length+9<=140737488355328):
  Calls Tryz.prog 88 #[.pointer (some ⟨g,0,none⟩),.int .i64 n] w (Wrote w g F (bs++put n)):=by
 have hp:=nG (n:=n) (by omega);have hv:=Fg n (by omega);have HV:=ah hv;clear hv;have H:=ah h;clear h;have hmx:∀W ts t,(Builtin.max_ ts t #[.int .i64 (n:Int),.int .i64 0]).run Tryz.prog W=.ok (.int .i64 n) W:=by
  intro W ts t;rw[run_max_int2];split
  ·congr 2;omega
  ·rfl
 go_enter Tryz.func88,Tryz.ntmps88;go_wp2_with fail;refine(HV.out _).mono ?_;rintro e w2 ⟨rfl,hk⟩;have hp2:=xQ w2 g F bs (fE (put n)) (H.out.kept hk (wF F)) (by rw[nS];omega);rw[lH]at hp2;have HP:=ah hp2;clear hp2;have HK:=ah hk;clear hk;go_wp2_with fail;refine HP.out.mono ?_;rintro e w3 hw;have hw2:=Wrote.quiet HK.out hw;obtain⟨rfl,hr⟩:=hw;have HW:=ah hw2;clear hw2 hr;go_wp2;go_ret;exact HW.out
theorem JX(w:World)(g:Nat)(F:Nat->Prop)(bs:List UInt8)(n:Nat)(hn:n<18446744073709551616)(h:oD w g F bs)(hlen:bs.length+9<=140737488355328):
  Calls Tryz.prog 132 #[.pointer (some ⟨g,0,none⟩),.int .u64 n] w (Wrote w g F (bs++put n)):=by
 have hp:=nG (n:=n) (by omega);have hv:=Fg n (by omega);have HV:=ah hv;clear hv;have H:=ah h;clear h;go_enter Tryz.func132,Tryz.ntmps132;go_wp2_with fail;refine(HV.out _).mono ?_;rintro e w2 ⟨rfl,hk⟩;have hp2:=xQ w2 g F bs (fE (put n)) (H.out.kept hk (wF F)) (by rw[nS];omega);rw[lH]at hp2;have HP:=ah hp2;clear hp2;have HK:=ah hk;clear hk;go_wp2_with fail;refine HP.out.mono ?_;rintro e w3 hw;have hw2:=Wrote.quiet HK.out hw;obtain⟨rfl,hr⟩:=hw;have HW:=ah hw2;clear hw2 hr;go_wp2;go_ret;exact HW.out
theorem IE(w:World)(g:Nat)(F:Nat->Prop)(bs:List UInt8)(s:ByteArray)(h:oD w g F bs)(hlen:bs.length+9+s.size<=140737488355328):
  Calls Tryz.prog 131 #[.pointer (some ⟨g,0,none⟩),.string s] w (Wrote w g F (bs++dA s)):=by
 have hp:=nG (n:=s.size) (by omega);have hv:=Fg s.size (by omega);have hsz:(s.size:Int)<18446744073709551616:=by omega
 have HV:=ah hv;clear hv;have H:=ah h;clear h;go_enter Tryz.func131,Tryz.ntmps131;go_wp2_with fail;refine(HV.out _).mono ?_;rintro e w2 ⟨rfl,hk⟩;have hp2:=xQ w2 g F bs (fE (put s.size)) (H.out.kept hk (wF F)) (by rw[nS];omega);rw[lH]at hp2;have HP:=ah hp2;clear hp2;have HK:=ah hk;clear hk;go_wp2_with fail;refine HP.out.mono ?_;rintro e w3 ⟨rfl,F3,g1,g2,g3⟩;have hp3:=xQ w3 g F3 (bs++put s.size) s g1 (by rw[lA0];omega);have Yz:=ah hp3;clear hp3;have HG:=ah (And.intro g1 (And.intro g2 g3));clear g1 g2 g3;go_wp2_with fail;refine Yz.out.mono ?_;rintro e w4 hw;have hw2:=Wrote.quiet HK.out (Wrote.then HG.out.2.2.size HG.out.2.1 HG.out.2.2 hw);obtain⟨rfl,hr⟩:=hw;rw[List.append_assoc]at hw2;have HW:=ah hw2;clear hw2 hr;go_wp2;go_ret;exact HW.out
theorem IG(w:World)(g:Nat)(F:Nat->Prop)(bs:List UInt8)(b:Bool)(h:oD w g F bs)(hlen:bs.length+1<=140737488355328):
  Calls Tryz.prog 171 #[.pointer (some ⟨g,0,none⟩),.bool b] w (Wrote w g F (bs++sW b)):=by
 cases b
 ·have hp2:=xQ w g F bs ⟨#[0]⟩ h hlen;have HP:=ah hp2;clear hp2 h;go_enter Tryz.func171,Tryz.ntmps171;go_wp2_with fail;refine HP.out.mono ?_;rintro e w4 hw;have HW:=ah hw;obtain⟨rfl,hr⟩:=hw;clear hr;go_wp2;go_ret;exact HW.out
 ·have hp2:=xQ w g F bs ⟨#[1]⟩ h hlen;have HP:=ah hp2;clear hp2 h;go_enter Tryz.func171,Tryz.ntmps171;go_wp2_with fail;refine HP.out.mono ?_;rintro e w4 hw;have HW:=ah hw;obtain⟨rfl,hr⟩:=hw;clear hr;go_wp2;go_ret;exact HW.out
theorem JY(w:World):Calls Tryz.prog 87 #[] w fun e w'=>e=.returned (.pointer (some ⟨w.heap.size,0,none⟩))/\oD w' w.heap.size (fun k=>k=w.heap.size) []/\Kept aj w w':=by go_enter Tryz.func87,Tryz.ntmps87;go_wp2;go_ret;refine⟨rfl,⟨_,_,Has.new _ _ _,.inl rfl,⟨by simp[Lib.byteCells],.inl ⟨rfl,rfl⟩⟩,by simp[Value.ownBlock],fun k=>by simp[Value.ownBlock]⟩,(Kept.refl _ _).alloc _⟩

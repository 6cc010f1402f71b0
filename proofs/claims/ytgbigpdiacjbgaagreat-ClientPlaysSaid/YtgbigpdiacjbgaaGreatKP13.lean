/- Part 14. -/
import Derived.Test.YtgbigpdiacjbgaaGreatKP12
set_option linter.unusedSimpArgs false
set_option linter.unusedVariables false
set_option maxHeartbeats 32000000
set_option maxRecDepth 100000
namespace Go.Proofs.YtgbigpdiacjbgaaGreat
open Go.Shelf Go.Sort Go.RowKit Go.Maps Go.Proofs
namespace IZ
open Ops Vn
theorem Gv{m:List dU}{x:BL}{o:dU}(h:oK m x=some o):rowOf (oK m) x=o:=by have hk:=(Ja h).1;unfold rowOf;rw[h,<-hk,Du];rfl
theorem Ru(m:List dU):(vg m).flatMap (oL (oK m))=cells (rM m):=by
 unfold cells rM;rw[List.flatMap_map];suffices∀ks:List BL,(∀x∈ks,x∈vg m)->ks.flatMap (oL (oK m))=ks.flatMap fun x=>cell ((oK m x).getD o0)from this _ fun _ h=>h;intro ks;induction ks with
 |nil=>intro _;rfl
 |cons x ks ih=>
  intro h;rw[List.flatMap_cons,List.flatMap_cons,ih fun y hy=>h y (List.mem_cons_of_mem _ hy)];obtain⟨o,ho⟩:=Gp (Rl.1 (h x (by simp)));unfold oL;rw[Gv ho,ho];rfl
theorem UX(w:World)(A:Option Addr)(c:Nat)(m:List dU)(hm:Src w 3 A m.length (cells m))(hlen:m.length<=1000)(hg:∀o∈m,o.key.size<=maxLen):
  Calls Tryz.prog 50 #[.slice A m.length c] w (Gn w (rM m)):=by
 have hmk:= @run_makeMap Tryz.prog;have HL:=ah hm;clear hm;have jH:=ah hg;clear hg;have aS:=ah ((Kept.refl aj w).alloc (.map #[] 0));have zh:=ah (yT.made w);go_enter Tryz.func50,Tryz.ntmps50;go_wp2_with fail;clear hmk;obtain⟨W0,hW0⟩:∃W0,w.alloc (.map #[] 0)=W0:=⟨_,rfl⟩;rw[hW0]at zh aS;rw[hW0];clear hW0;go_loopw [15] (fun v15 wr=>∃i:Nat,i<=m.length/\v15=.int .i64 i/\yT wr w.heap.size i (oK (m.take i))/\Kept aj w wr) (fun v15 _=>m.length-(intOf v15).toNat)
 case atStart=>exact⟨0,Nat.zero_le _,rfl,zh.out,aS.out⟩
 case round=>
  obtain⟨i,hi,rfl,hmp,hk⟩:=hrel;have HK:=ah hk;clear hk;by_cases hil:i<m.length
  ·obtain⟨o,ho⟩:∃o,m[i]? =some o:=⟨_,List.getElem?_eq_getElem hil⟩;obtain⟨ad,rfl,hlt,e0,e1,e2⟩:=nU (HL.out.kept HK.out (fun _ _ x=>x)) (by omega) i o ho;obtain⟨w2,hst,hm2,hk2⟩:=(hmp.kept ((Kept.refl aj wr).alloc (.cells (YU o) 143)) (fun x=>x)).store (by unfold maxLen;omega) o (jH.out o (List.mem_of_getElem? ho));rw[<-Gm m i o ho]at hm2;have hk3:Kept aj w w2:=(HK.out.alloc _).trans hk2 (fun j hj=> .inr (by rw[hj];exact Nat.le_refl _));have kR:=ah (And.intro hm2 hk3);clear hm2 hk3 hk2 ho hmp;obtain⟨k0,v0,d0⟩:=o;dsimp only[yS,YU]at*
   go_wp2_with fail;go_roundw
   case rel=>exact⟨i+1,by omega,by go_num,kR.out.1,kR.out.2⟩
   case measure=>simp[intOf];omega
  ·obtain rfl:i=m.length:=by omega
   rw[List.take_length]at hmp;obtain⟨D,hown,hD⟩:=hmp;have HD:=ah hD;clear hD;obtain⟨w1,hw1⟩:∃w1:World,w1=wr:=⟨_,rfl⟩;subst hw1
   go_wp2_with (first
    |(at_range;refine wpList_range_own _ rfl _ 141 rfl 9 143 Fp Tryz.underlying141 _ w.heap.size _ _ rfl hown ?_;intro w0 hrg0 hg0 hs0)
    |go_in)
   go_frame;have hDs:=hown.size_le;have hsz:=HK.out.size
   go_loopw [6] (fun v6 wz=>∃(left:Lit->Bool) (cnt:Nat) (ss:List BL) (A':Option Addr) (c':Nat),wz.ranges Tryz.prog 9 BJ w.heap.size w1.heap.size m.length D left cnt/\ss.length+cnt<=Maps.size D/\
     v6=.slice A' ss.length c'/\bV 145 3 w.heap.size wz A' ss.length c' (ss.flatMap (oL (oK m)))/\Collected D left ss/\Kept aj w wz)
    (fun _ wz=>wz.rangeLeft w.heap.size w1.heap.size)
   case atStart=>
    exact⟨_,_,[],none,0,hrg0,by simp,rfl,⟨⟨rfl,.inl ⟨rfl,rfl⟩⟩,fun k hk=>by cases hk⟩,Collected.start D,HK.out.grownBy hg0 (fun k hk=>by cases hk)⟩
   case round=>
    obtain⟨left,cnt,ss,A',c',hrg,hcs,rfl,hrow,hC,hk⟩:=hrel;have NM:=ah hk;clear hk;have hsz2:=NM.out.size;have dX:=ah hrow;clear hrow;have HC:=ah hC;clear hC
    go_wp2_with (first
     |(at_next;refine wpList_next_ranges _ rfl _ rfl 9 Fp BJ encStr (fun o:dU=>yS o) (fun key kl hk=>by obtain⟨x,hx,_⟩:=Maps.keyOf_str Tryz.underlying9 hk;exact⟨x,hx⟩) (fun v y hv=>OJ hv) w.heap.size w1.heap.size m.length _ _ _ rfl hrg ?_ ?_)
     |go_in)
    ·intro hc0 hl0;go_wp2_with fail;refine(Rt _ 0 A' c' (oK m) ss dX.out.1 (by omega)).mono ?_;rintro e w2 ⟨rfl,hrow2,hk2⟩;have hmem:∀x,x∈ss↔x∈m.map fun o=>bl o.key:=by
      intro x;rw[HC.out.2 x,(HD.out x).1,hl0];constructor
      ·intro h;obtain⟨o,ho⟩:=Option.isSome_iff_exists.1 h.1;obtain⟨h1,h2⟩:=Ja ho;exact List.mem_map.2 ⟨o,h2,h1⟩
      ·intro h;obtain⟨o,ho⟩:=Gp h;rw[ho];exact⟨rfl,rfl⟩
     have hset:ss.mergeSort leB=vg m:=Keys.set_perm HC.out.1 hmem;rw[hset,Ru]at hrow2;have hnl:(rM m).length=ss.length:=by unfold rM;rw[List.length_map,<-hset,List.length_mergeSort]
     have hsrc:=Src.fA hrow2;have hk3:Kept aj w w2:=NM.out.trans hk2 (fun k hk=> .inr (dX.out.2 k hk));have hcs2:ss.length<=1000:=by omega
     clear hrow2 hk2 hmem hset hrg hcs hl0 hc0;obtain⟨out,hout⟩:∃out,rM m=out:=⟨_,rfl⟩;rw[hout]at hsrc hnl;have Rk:=ah hout;clear hout;obtain⟨n,hn⟩:∃n,ss.length=n:=⟨_,rfl⟩;rw[hn]at hsrc hnl hcs2;rw[hn];clear hn dX HC NM;have uS:=ah hsrc;clear hsrc;have o9:=ah hnl;clear hnl;have dI:=ah hk3;clear hk3;go_wp2_with fail;go_loopw [9,38] (fun v9 v38 wy=>∃(i:Nat) (A5:Option Addr) (c5:Nat),i<=n/\v38=.int .i64 i/\v9=.slice A5 i c5/\bV 143 3 w2.heap.size wy A5 i c5 (cells (out.take i))/\Kept aj w2 wy) (fun _ v38 _=>n-(intOf v38).toNat)
     case atStart=>exact⟨0,none,0,Nat.zero_le _,rfl,rfl,⟨⟨rfl,.inl ⟨rfl,rfl⟩⟩,fun k hk=>by cases hk⟩,Kept.refl _ _⟩
     case round=>
      obtain⟨i,A5,c5,hi,rfl,rfl,hrow,hk⟩:=hrel;have hsz5:=hk.size;have dX:=ah (And.intro hrow hsz5);clear hrow hsz5;have mX:=ah hk;clear hk;by_cases hil:i<n
      ·obtain⟨o,ho⟩:∃o,out[i]? =some o:=⟨_,List.getElem?_eq_getElem (by have:=o9.out;omega)⟩;obtain⟨ad,hA,hlt,e0,e1,e2⟩:=nU (uS.out.kept mX.out (fun _ _ x=>x)) (by omega) i o ho;subst hA;have hcs:=cells_at ho;have dV:=ah hcs;clear hcs ho;obtain⟨k0,v0,d0⟩:=o;dsimp only at e0 e1 e2 dV;have hm1:i+1<=maxLen:=by unfold maxLen;omega
       have hm2:(i+1)*40<=140737488355328:=by omega
       have kY:=ah hm1;clear hm1;have kR:=ah hm2;clear hm2;go_wp2_with (at_builtin;refine bH Gl (.tmp 42) (.tmp 44) rfl rfl (Value.slice A5 i c5) rfl ((dX.out.1.kept (((Kept.refl _ _).alloc _).alloc _)).1) 1 rfl (Src.kW (m:=1) (cs:=#[.string k0,.string v0,.bool d0]) (Has.dQ _ 143 _ (by simp)) rfl) (by intro u hu;simp at hu;rcases hu with rfl|rfl|rfl<;>rfl) kY.out kR.out ?_;intro A6 c6 w6 ji fJ ha6);have vV:bV 143 3 w2.heap.size w6 A6 (i+1) c6 (cells (out.take (i+1))):=by rw[dV.out];exact dX.out.1.snoc (by simp;have:=dX.out.2;omega) ji ha6
       have hk6:Kept aj w2 w6:=((mX.out.alloc _).alloc _).grown fJ (fun k hk=> .inr (dX.out.1.2 k hk));clear ji fJ ha6;have vW:=ah (And.intro vV hk6);clear vV hk6;go_wp2;go_roundw
       case rel=>exact⟨i+1,A6,c6,by omega,by go_num,rfl,vW.out.1,vW.out.2⟩
       case measure=>simp[intOf];omega
      ·obtain rfl:i=n:=by omega
       go_wp2;go_ret;have h1:=dX.out.1;rw[List.take_of_length_le (by rw[o9.out];exact Nat.le_refl _)]at h1;refine⟨A5,c5,by rw[Rk.out,o9.out];rfl,?_,dI.out.then mX.out⟩;rw[Rk.out,o9.out];exact⟨h1.1,fun k hk=>Nat.le_trans dI.out.size (h1.2 k hk)⟩
    ·intro x cb kl yd yp w2 cnt2 hkey hlk hv hat hrg2 hlt hg2 hs2 hen;obtain⟨x',ex,rfl,_⟩:=Maps.keyOf_str Tryz.underlying9 hkey;obtain rfl:x=x':=encStr_inj ex;have hy:yd=DV cb:=by have h:some (DV cb,[])=some (yd,yp):=hv;injection h with h;injection h with h1 h2;exact h1.symm
     subst hy;have hhas:has D (.string x)=true:=has_true_of_atKey hat;rw[(HD.out x).1]at hhas;obtain⟨o,ho⟩:=Option.isSome_iff_exists.1 hhas;have hoc:o=cb:=UU (((HD.out x).2 o ho).symm.trans (hat _));subst hoc;have hro:=Gv ho;have hrow2:=dX.out.1.kept hg2 (Or.inr (row_ne_iter dX.out.1 hrg).symm);have hk2:Kept (fun k=>k=w1.heap.size) wr w2:=(Kept.refl _ _).grownBy hg2 (fun k hk=>by injection hk with hk;exact .inl hk.symm);have hkw:Kept aj w w2:=NM.out.trans hk2 (fun j hj=> .inr (by rw[hj];exact hsz));have hcn:=HC.out.step hlk hat;have hfl:(ss++[x]).flatMap (oL (oK m))=ss.flatMap (oL (oK m))++[.string o.key,.string o.val,.bool o.del]:=by rw[List.flatMap_append];congr 1;unfold oL;rw[List.flatMap_cons,List.flatMap_nil,hro,List.append_nil];rfl
     have wM:=ah hfl;clear hfl hro ho hhas;have HC2:=ah hcn;clear hcn;have Gw:=ah (And.intro hrow2 hkw);clear hrow2 hkw hk2;clear hs2 hkey hv hat hlk ex;obtain⟨k0,v0,d0⟩:=o;dsimp only[yS]at hen wM⊢;have YX:ss.length+1<=maxLen:=by unfold maxLen;omega
     have YY:(ss.length+1)*40<=140737488355328:=by omega
     have abn:=ah YX;clear YX;have abo:=ah YY;clear YY;go_wp2_with (at_builtin;refine bH XJ (.tmp 30) (.tmp 32) rfl rfl (Value.slice A' ss.length c') rfl (aP Gw.out.1 (F:=aj) (((Kept.refl _ _).alloc _).alloc _) (fun _ _ x=>x)) 1 rfl (Src.kW (m:=1) (cs:=#[.string k0,.string v0,.bool d0]) (Has.dQ _ 145 _ (by simp)) rfl) (by intro u hu;simp at hu;rcases hu with rfl|rfl|rfl<;>rfl) abn.out abo.out ?_;intro A3 c3 w3 ho3 hg3 DT);have hrg3:=((hrg2.alloc (.cells #[.string k0,.string v0,.bool d0] 143)).alloc (.cells #[.string k0,.string v0,.bool d0] 145)).kept hg3 (fun e=>OL Gw.out.1 hrg2.owns e.symm) (row_ne_iter Gw.out.1 hrg2);have hlen3:(ss++[x]).length=ss.length+1:=by simp
     have hk3:Kept aj w w3:=((Gw.out.2.alloc _).alloc _).grown hg3 (fun k hk=> .inr (dX.out.2 k hk));have Aw:bV 145 3 w.heap.size w3 A3 (ss++[x]).length c3 ((ss++[x]).flatMap (oL (oK m))):=by rw[hlen3,wM.out];exact bV.snoc (w:=wr) dX.out (by simp;have:=Gw.out.2.size;omega) ho3 DT
     have I8:=ah (And.intro Aw hk3);clear Aw ho3 hg3 DT hk3;go_wp2_with fail;go_roundw
     case rel=>exact⟨_,cnt2,ss++[x],A3,c3,hrg3,by rw[hlen3];omega,by rw[hlen3],I8.out.1,HC2.out,I8.out.2⟩
     case measure=>rw[hrg3.left_eq,hrg.left_eq];exact hlt
end IZ
end Go.Proofs.YtgbigpdiacjbgaaGreat
namespace Go.Proofs.YtgbigpdiacjbgaaGreat
open Go.RowKit
namespace Ask
open bg Ops fG eP Vn
def nJ(cl rq:Int)(bo:List dU)(a:iZ):Bool:=
 if a.k=0 then decide (Ops.chk ⟨cl,rq,bo⟩=0)
 else if a.k=1\/a.k=3 then decide (0<=a.nd/\a.nd<4)&&decide (keyE a.key=0)
 else if a.k=2 then decide (0<=a.nd/\a.nd<4)&&(decide (a.key.size<=8)&&(decide (a.to.size<=8)&&(decide (1<=a.n)&&decide (a.n<=32))))
 else if a.k=5\/a.k=6 then decide (0<=a.n)&&decide (a.n<=1073741824)
 else decide (a.k=4)
def fK(a:iZ):List dU:=if a.k=0 then rM a.ops else []
def newE(cl rq:Int)(a:iZ):Int:=if cl<0\/3<=cl then 1 else if rq<1\/1073741824<rq then 5 else if nJ cl rq (fK a) a=true then 0 else 1
def iG(a:iZ):Nat:=if a.k=0\/a.k=3 then 0 else if a.k=1\/a.k=2 then 1 else 2
def newT(cl rq:Int)(a:iZ):TS:=⟨cl,rq,a,fK a,iG a,a.at',a.key,[],0,false,oH⟩

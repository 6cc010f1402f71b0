/- Part 12. -/
import Derived.Test.YtgbigpdiacjbgaaGreatKP04
import Derived.StillTailTactics
import Derived.Shelf.SlIter.Nil
import Derived.Shelf.SortM.Plain
import Derived.Shelf.SortM.SortNone
set_option linter.unusedSimpArgs false
set_option linter.unusedVariables false
set_option maxHeartbeats 32000000
set_option maxRecDepth 100000
namespace Go.Proofs.YtgbigpdiacjbgaaGreat
open Go.RowKit
namespace Keys
abbrev strs(l:List ByteArray):List Value:=l.map Value.string
def bl(l:List ByteArray):List BL:=l.map ByteArray.toList
theorem DN{w:World}{A:Option Addr}{m:Nat}{l:List ByteArray}(h:Src w 1 A m (strs l))(hm:0<m)(i:Nat)(s:ByteArray)(hs:l[i]? =some s):
  ∃ad,A=some ad/\ad.block<w.heap.size/\w.cell? (ad.add i)=some (.string s):=by
 obtain⟨ad,rfl,had,hcell⟩:=h.2 hm;exact⟨ad,rfl,had,hcell i _ (by simp[strs,hs])⟩
theorem rV:Elem Tryz.prog 189 9 1 16:=by obtain⟨i0,hi,hz0,hz1,hz2⟩:=info_parts (show(Tryz.prog.info? 9).map (fun i=>(i.zero,i.size,i.bytes))=some (some (.string ⟨#[]⟩),1,16) by kernel_rfl);exact⟨Tryz.underlying189,⟨i0,_,hi,hz0,hz1,hz2,rfl⟩,by decide⟩
def setB(l:List ByteArray):List ByteArray:=(Ce (bl l)).map fun x=>⟨x.toArray⟩
theorem XG{l:List ByteArray}{i:Nat}{s:ByteArray}(h:l[i]? =some s):bl (l.take (i+1))=bl (l.take i)++[s.toList]:=by unfold bl;rw[List.take_add_one,h];simp
def kL(rb:List ByteArray)(k:Nat)(s:ByteArray):List ByteArray:=rb.take k++s::rb.drop k
theorem BI(rb:List ByteArray)(k:Nat)(s:ByteArray):bl (kL rb k s)=(bl rb).take k++s.toList::(bl rb).drop k:=by simp[kL,bl,List.map_take,List.map_drop]
theorem FH(rb:List ByteArray)(k:Nat)(s:ByteArray):(kL rb k s).length=rb.length+1:=by simp[kL];omega
theorem x9(l:List ByteArray):∀u∈strs l,u.oneCell'=true:=by intro u hu;obtain⟨x,_,rfl⟩:=List.mem_map.1 hu;rfl
theorem OH{a b:ByteArray}(h:Op.bytesLess a.toList b.toList=true):a.toList<b.toList:=by rw[bytesLess_eq]at h;simpa using h
theorem QY{a b:ByteArray}(h:Op.bytesLess a.toList b.toList=false)(hne:a.toList≠b.toList):b.toList<a.toList:=by have:=F7 _ _ h hne;rw[bytesLess_eq]at this;simpa using this
theorem UQ(w:World)(A:Option Addr)(c:Nat)(l:List ByteArray)(hl:Src w 1 A l.length (strs l))(hlen:l.length<=1000):
  Calls Tryz.prog 116 #[.slice A l.length c] w fun e w'=>∃A' c',e=.returned (.slice A' (setB l).length c')/\w'.ownsRow 0 9 1 (.slice A' (setB l).length c') (setB l).length (strs (setB l))/\(∀k,(Value.slice A' (setB l).length c').ownBlock=some k->w.heap.size<=k)/\Below w.heap.size w w':=by
 have HL:=ah hl;clear hl;go_enter Tryz.func116,Tryz.ntmps116;go_wp2_with fail;go_loopw [3,4,5,6] (fun v3 v4 v5 v6 wr=>∃(i:Nat) (rb:List ByteArray) (R:Option Addr) (rc:Nat),i<=l.length/\v4=.int .i64 i/\v3=.slice R rb.length rc/\rb.length<=i/\wr.ownsRow 0 9 1 (.slice R rb.length rc) rb.length (strs rb)/\(bl rb).Pairwise (· <·)/\(∀y,y∈bl rb↔y∈bl (l.take i))/\(∀k,(Value.slice R rb.length rc).ownBlock=some k->w.heap.size<=k)/\Below w.heap.size w wr) (fun _ v4 _ _ _=>l.length-(intOf v4).toNat)
 case atStart=>exact⟨0,[],none,0,Nat.zero_le _,rfl,rfl,Nat.le_refl _,⟨rfl,.inl ⟨rfl,rfl⟩⟩,List.Pairwise.nil,fun y=>by simp[bl],(fun k hk=>by cases hk),Below.refl _ _⟩
 case round=>
  obtain⟨i,rb,R,rc,hi,rfl,rfl,hrl,hrow,hpw,hmem,hnew,hB⟩:=hrel;have HB:=ah hB;clear hB;have dX:=ah hrow;clear hrow;have QZ:=ah hpw;clear hpw;have Hy:=ah hmem;clear hmem;have mF:=ah hnew;clear hnew;have hsz:=HB.out.size;have hcap:=mM dX.out;by_cases hil:i<l.length
  ·obtain⟨s,hs⟩:∃s,l[i]? =some s:=⟨_,lB0 hil⟩;obtain⟨ad,rfl,YS,e00⟩:=DN HL.out (by omega) i s hs;have hcell:∀W,Below w.heap.size w W->W.cell? (ad.add i)=some (.string s):=fun W hW=>(hW.cell (p:=ad.add i) (by rw[block_add];exact YS)).trans e00;have HC:=ah hcell;clear hcell e00;have nI:=ah (XG hs);clear hs;obtain⟨wo,hwo⟩:∃wo:World,wo=wr:=⟨_,rfl⟩;subst hwo;go_wp2_with fail;go_loopw [5] (fun v5 wq=>∃k:Nat,k<=rb.length/\v5=.int .i64 k/\(∀(j:Nat) (p:BL),j<k->(bl rb)[j]? =some p->p<s.toList)/\Kept aj wo wq) (fun v5 _=>rb.length-(intOf v5).toNat)
   case atStart=>exact⟨0,Nat.zero_le _,rfl,(fun j p hj=>by omega),Kept.refl _ _⟩
   case round=>
    obtain⟨k,hk,rfl,hall,hkq⟩:=hrel;have Hz:=ah hall;clear hall;have YT:Below w.heap.size w wr:=HB.out.trans (hkq.below hsz (fun _ x=>x.elim));have e0:=HC.out wr YT;by_cases hkl:k<rb.length
    ·obtain⟨q,hq⟩:∃q,rb[k]? =some q:=⟨_,lB0 hkl⟩;obtain⟨td,rfl,-,e1⟩:=DN ((Src.fA dX.out).kept hkq (fun _ _ x=>x)) (by omega) k q hq;have WT:(bl rb)[k]? =some q.toList:=by simp[bl,hq]
     by_cases hlt2:Op.bytesLess q.toList s.toList=true
     ·have WU:∀(j:Nat) (p:BL),j<k+1->(bl rb)[j]? =some p->p<s.toList:=by
       intro j p hj hp;by_cases e:j=k
       ·subst e;rw[WT]at hp;injection hp with hp;rw[<-hp];exact OH hlt2
       ·exact Hz.out j p (by omega) hp
      have aaK:=ah WU;clear WU WT hq;go_wp2_with fail;go_quiet (fail);go_wp2;go_roundw
      case rel=>exact⟨k+1,by omega,by go_num,aaK.out,hkq.drewN _⟩
      case measure=>simp[intOf];omega
     ·have hlt3:Op.bytesLess q.toList s.toList=false:=by simpa using hlt2
      clear hlt2;go_wp2_with fail;go_quiet (fail);go_wp2_with fail;by_cases heq:q.toList=s.toList
      ·have hb1:(q.toList==s.toList)=true:=by simp[heq]
       go_quiet (fail);go_wp2_with fail;go_roundw
       case rel=>exact⟨i+1,rb,some td,rc,by omega,by go_num,rfl,by omega,aP dX.out (hkq.drewN _) (fun _ _ x=>x),QZ.out,fun y=>by rw[nI.out,Hy.out y,List.mem_append,List.mem_singleton];exact⟨.inl,fun h=>h.elim id (fun h=>(Hy.out y).1 (by rw[h,<-heq];exact lC0 WT))⟩,mF.out,YT.trans (((Kept.refl aj wr).drewN _).below (by have:=YT.size;omega) (fun _ x=>x.elim))⟩
       case measure=>simp[intOf];omega
      ·have hb1:(q.toList==s.toList)=false:=by simpa using heq
       have h2:∀p,(bl rb)[k]? =some p->s.toList<p:=fun p hp=>by rw[WT]at hp;injection hp with hp;rw[<-hp];exact QY hlt3 heq
       have H2:=ah h2;clear h2;go_quiet (fail);go_wp2_with fail;generalize hw0:World.drewN wr _=w0;have hk0:Kept aj wr w0:=by rw[<-hw0];exact(Kept.refl _ _).drewN _
       clear hw0;have hkw:=hkq.then hk0;have hB0:Below w.heap.size w w0:=HB.out.trans (hkw.below hsz (fun _ x=>x.elim));have hz0:=hB0.size;have hc0:∀W,Kept aj w0 W->W.cell? (ad.add i)=some (.string s):=fun W hW=>HC.out W (hB0.trans (hW.below hz0 (fun _ x=>x.elim)));have e5:=hc0 w0 (Kept.refl _ _);have xJ:=ah hc0;clear hc0;have e6:∀(n:Nat) (o:Obj),((w0.drewN n).alloc o).cell? (ad.add i)=some (.string s):=fun n o=>xJ.out _ (((Kept.refl _ _).drewN n).alloc o);have hsrc:=(Src.fA dX.out).kept hkw (fun _ _ x=>x);have I4:∀W,Kept aj w0 W->Src W 1 (some td) k (strs (rb.take k)):=fun W hW=>by have:=(hsrc.kept hW (fun _ _ x=>x)).take hk;rw[Nat.mul_one,<-List.map_take]at this;exact this
       have Kz:=ah I4;clear I4;have I5:∀W,Kept aj w0 W->Src W 1 (if rc=k then (some td)else Option.map (fun ad:Addr=>ad.add k) (some td)) (rb.length-k) (strs (rb.drop k)):=fun W hW=>by have:=(hsrc.kept hW (fun _ _ x=>x)).drop (cap:=rc) hk hcap.1;simp only[Nat.mul_one]at this;rw[<-List.map_drop]at this;exact this
       have Q5:=ah I5;clear I5 hsrc;have zh:Hid (0+k<=maxLen):=ah (by unfold maxLen;omega);have vU:Hid ((0+k)*16<=140737488355328):=ah (by omega);have kY:Hid (k+1<=maxLen):=ah (by unfold maxLen;omega);have Dh:Hid ((k+1)*16<=140737488355328):=ah (by omega);have kR:Hid (k+1+(rb.length-k)<=maxLen):=ah (by unfold maxLen;omega);have nR:Hid ((k+1+(rb.length-k))*16<=140737488355328):=ah (by omega);have hI1:(k:Int)<=(rc:Int):=by have:=hcap.1;omega
       clear e0
       go_region_law (first
        |(with_reducible apply jL rV (.tmp 45) (.tmp 48) (n:=0) (xs:=[]) (A:=some td) (m:=k) (c:=rc) (news:=strs (rb.take k))
          rfl
          rfl
          exact(rfl:_=Value.slice (some ⟨_,0,none⟩) 0 0)
          (refine pR (cs:=#[]) ?_ rfl;(repeat (with_reducible first|exact Has.dQ _ _ _ (by simp)|apply Has.drew|apply Has.drewN|apply Has.alloc|(apply Has.past<;>(try omega)))))
          exact(rfl:_=Value.slice (some td) k rc)
          (exact Kz.out _ (by(repeat'(first|(with_reducible first|exact ay|apply aA|apply aB|apply aC|apply aF)|(right;simp;done)))))
          exact x9 _
          exact zh.out
          exact vU.out
          intro A1 c1 w1 ho1 hg1 ha1
          have hk1:Kept aj w0 w1:=by refine Kept.grown ?_ hg1 ?_;(repeat'(first|(with_reducible first|exact ay|apply aA|apply aB|apply aC|apply aF)|(right;simp;done)));exact fun k hk=> .inr (oV hk (by first|(simp;done)|(simp;omega)|omega))
          have P0:=xJ.out w1 hk1
          have hz1:=hk1.size
          simp only[Nat.zero_add,List.nil_append]at ho1 ha1⊢)
        |(with_reducible apply jL rV (.tmp 49) (.tmp 54) (n:=k) (xs:=strs (rb.take k)) (m:=1) (c:=1) (news:=[.string s])
          rfl
          rfl
          exact(rfl:_=Value.slice A1 k c1)
          (refine aP ho1 (F:=aj) ?_ (fun _ _ x=>x);(repeat'(first|(with_reducible first|exact ay|apply aA|apply aB|apply aC|apply aF)|(right;simp;done))))
          exact(rfl:_=Value.slice (some ⟨_,0,none⟩) 1 1)
          (refine Src.kW (t:=9) (cs:=#[.string s]) ?_ rfl;(repeat (first|with_reducible exact Has.dQ _ _ _ (by simp)|with_reducible apply Has.drew|with_reducible apply Has.drewN|with_reducible apply Has.alloc|(with_reducible refine Has.grown ?_ hg1 (by simp[Value.ownBlock])))))
          (intro u hu;simp at hu;subst hu;rfl)
          exact kY.out
          exact Dh.out
          intro A2 c2 w2 ho2 hg2 ha2
          have hk2:Kept aj w0 w2:=by refine Kept.grown (Kept.then hk1 ?_) hg2 ?_;(repeat'(first|(with_reducible first|exact ay|apply aA|apply aB|apply aC|apply aF)|(right;simp;done)));exact fun k hk=> .inr (sU hk ha1 (by first|(simp;done)|(simp;omega)|omega) (by first|(simp;done)|(simp;omega)|omega))
          have hz2:=hk2.size))
       all_goals
        have hlow:∀k',(Value.slice A2 (k+1) c2).ownBlock=some k'->w0.heap.size<=k':=fun k' hk'=>Fe hk' ha2 ha1 (by first|(simp;done)|(simp;omega)|omega) (by first|(simp;done)|(simp;omega)|omega) (by first|(simp;done)|(simp;omega)|omega)
        have DR:=ah hlow;clear hlow
        have Q7:=ah ho2;clear ho2 ho1 hg1 hg2 ha1 ha2 P0 e5 e6
        have hkL:(k:Int)<=rb.length:=by omega
        have hs2:=Q5.out w2 hk2
        by_cases hck:rc=k
        all_goals
         first|rw[if_pos hck]at hs2|rw[if_neg hck]at hs2
         first|rw[Option.map_some]at hs2|rw[Option.map_none]at hs2|skip
         have HS2:=ah hs2;clear hs2
         go_wp2_with (at_builtin;refine bH rV (.tmp 56) (.tmp 59) rfl rfl (Value.slice A2 (k+1) c2) rfl Q7.out _ rfl HS2.out (x9 _) kR.out nR.out ?_;intro A3 c3 w3 ho3 hg3 DT)
         have hL:=FH rb k s
         have hL2:k+1+(rb.length-k)=(kL rb k s).length:=by rw[hL];omega
         have hk3:Kept aj w0 w3:=hk2.grown hg3 (fun k' hk'=> .inr (DR.out k' hk'))
         have hB3:Below w.heap.size w w3:=hB0.trans (hk3.below hz0 (fun _ x=>x.elim))
         have Aw:w3.ownsRow 0 9 1 (.slice A3 (kL rb k s).length c3) (kL rb k s).length (strs (kL rb k s)):=by rw[<-hL2,show strs (kL rb k s)=strs (rb.take k)++[Value.string s]++strs (rb.drop k) by simp[kL,strs]];exact ho3
         have hn4:∀k',(Value.slice A3 (kL rb k s).length c3).ownBlock=some k'->w.heap.size<=k':=by
          rw[<-hL2];intro k' hk';rcases DT with h|h
          ·have:=DR.out k' (h.symm.trans hk');omega
          ·rw[hk']at h;injection h with h;omega
         have I7:(bl (kL rb k s)).Pairwise (· <·):=by rw[BI];exact Dw QZ.out Hz.out H2.out
         have hm4:∀y,y∈bl (kL rb k s)↔y∈bl (l.take (i+1)):=by intro y;rw[BI,Hq,nI.out,List.mem_append,List.mem_singleton,Hy.out y];exact or_comm
         have I8:=ah Aw;clear Aw ho3 hg3 DT
         have tZ:=ah hn4;clear hn4
         have Q8:=ah I7;clear I7
         have Q9:=ah hm4;clear hm4
         have HB4:=ah hB3;clear hB3
         have HL2:=ah hL2;clear hL2
         have kH:=ah hL;clear hL hck
         go_wp2_with fail
         go_roundw
         case rel=>exact⟨i+1,kL rb k s,A3,c3,by omega,by go_num,by rw[<-HL2.out],by rw[kH.out];omega,I8.out,Q8.out,Q9.out,tZ.out,HB4.out⟩
         case measure=>simp[intOf];omega
    ·have h2:∀p,(bl rb)[k]? =some p->s.toList<p:=fun p hp=>by rw[List.getElem?_eq_none (by simp[bl];omega)]at hp;cases hp
     have H2:=ah h2;clear h2;have hd:decide (k<rb.length)=false:=by simpa using hkl
     go_wp2_with fail;go_quiet (fail);go_wp2_with fail;go_quiet (fail);go_wp2_with fail;cases R with
     |none=>
      generalize hw0:World.drewN wr _=w0;have hk0:Kept aj wr w0:=by rw[<-hw0];exact(Kept.refl _ _).drewN _
      clear hw0;have hkw:=hkq.then hk0;have hB0:Below w.heap.size w w0:=HB.out.trans (hkw.below hsz (fun _ x=>x.elim));have hz0:=hB0.size;have hc0:∀W,Kept aj w0 W->W.cell? (ad.add i)=some (.string s):=fun W hW=>HC.out W (hB0.trans (hW.below hz0 (fun _ x=>x.elim)));have e5:=hc0 w0 (Kept.refl _ _);have xJ:=ah hc0;clear hc0;have e6:∀(n:Nat) (o:Obj),((w0.drewN n).alloc o).cell? (ad.add i)=some (.string s):=fun n o=>xJ.out _ (((Kept.refl _ _).drewN n).alloc o);have hsrc:=(Src.fA dX.out).kept hkw (fun _ _ x=>x);have I4:∀W,Kept aj w0 W->Src W 1 (none) k (strs (rb.take k)):=fun W hW=>by have:=(hsrc.kept hW (fun _ _ x=>x)).take hk;rw[Nat.mul_one,<-List.map_take]at this;exact this
      have Kz:=ah I4;clear I4;have I5:∀W,Kept aj w0 W->Src W 1 (if rc=k then (none)else Option.map (fun ad:Addr=>ad.add k) (none)) (rb.length-k) (strs (rb.drop k)):=fun W hW=>by have:=(hsrc.kept hW (fun _ _ x=>x)).drop (cap:=rc) hk hcap.1;simp only[Nat.mul_one]at this;rw[<-List.map_drop]at this;exact this
      have Q5:=ah I5;clear I5 hsrc;have zh:Hid (0+k<=maxLen):=ah (by unfold maxLen;omega);have vU:Hid ((0+k)*16<=140737488355328):=ah (by omega);have kY:Hid (k+1<=maxLen):=ah (by unfold maxLen;omega);have Dh:Hid ((k+1)*16<=140737488355328):=ah (by omega);have kR:Hid (k+1+(rb.length-k)<=maxLen):=ah (by unfold maxLen;omega);have nR:Hid ((k+1+(rb.length-k))*16<=140737488355328):=ah (by omega);have hI1:(k:Int)<=(rc:Int):=by have:=hcap.1;omega
      clear e0
      go_region_law (first
       |(with_reducible apply jL rV (.tmp 45) (.tmp 48) (n:=0) (xs:=[]) (A:=none) (m:=k) (c:=rc) (news:=strs (rb.take k))
         rfl
         rfl
         exact(rfl:_=Value.slice (some ⟨_,0,none⟩) 0 0)
         (refine pR (cs:=#[]) ?_ rfl;(repeat (with_reducible first|exact Has.dQ _ _ _ (by simp)|apply Has.drew|apply Has.drewN|apply Has.alloc|(apply Has.past<;>(try omega)))))
         exact(rfl:_=Value.slice (none) k rc)
         (exact Kz.out _ (by(repeat'(first|(with_reducible first|exact ay|apply aA|apply aB|apply aC|apply aF)|(right;simp;done)))))
         exact x9 _
         exact zh.out
         exact vU.out
         intro A1 c1 w1 ho1 hg1 ha1
         have hk1:Kept aj w0 w1:=by refine Kept.grown ?_ hg1 ?_;(repeat'(first|(with_reducible first|exact ay|apply aA|apply aB|apply aC|apply aF)|(right;simp;done)));exact fun k hk=> .inr (oV hk (by first|(simp;done)|(simp;omega)|omega))
         have P0:=xJ.out w1 hk1
         have hz1:=hk1.size
         simp only[Nat.zero_add,List.nil_append]at ho1 ha1⊢)
       |(with_reducible apply jL rV (.tmp 49) (.tmp 54) (n:=k) (xs:=strs (rb.take k)) (m:=1) (c:=1) (news:=[.string s])
         rfl
         rfl
         exact(rfl:_=Value.slice A1 k c1)
         (refine aP ho1 (F:=aj) ?_ (fun _ _ x=>x);(repeat'(first|(with_reducible first|exact ay|apply aA|apply aB|apply aC|apply aF)|(right;simp;done))))
         exact(rfl:_=Value.slice (some ⟨_,0,none⟩) 1 1)
         (refine Src.kW (t:=9) (cs:=#[.string s]) ?_ rfl;(repeat (first|with_reducible exact Has.dQ _ _ _ (by simp)|with_reducible apply Has.drew|with_reducible apply Has.drewN|with_reducible apply Has.alloc|(with_reducible refine Has.grown ?_ hg1 (by simp[Value.ownBlock])))))
         (intro u hu;simp at hu;subst hu;rfl)
         exact kY.out
         exact Dh.out
         intro A2 c2 w2 ho2 hg2 ha2
         have hk2:Kept aj w0 w2:=by refine Kept.grown (Kept.then hk1 ?_) hg2 ?_;(repeat'(first|(with_reducible first|exact ay|apply aA|apply aB|apply aC|apply aF)|(right;simp;done)));exact fun k hk=> .inr (sU hk ha1 (by first|(simp;done)|(simp;omega)|omega) (by first|(simp;done)|(simp;omega)|omega))
         have hz2:=hk2.size))
      all_goals
       have hlow:∀k',(Value.slice A2 (k+1) c2).ownBlock=some k'->w0.heap.size<=k':=fun k' hk'=>Fe hk' ha2 ha1 (by first|(simp;done)|(simp;omega)|omega) (by first|(simp;done)|(simp;omega)|omega) (by first|(simp;done)|(simp;omega)|omega)
       have DR:=ah hlow;clear hlow
       have Q7:=ah ho2;clear ho2 ho1 hg1 hg2 ha1 ha2 P0 e5 e6
       have hkL:(k:Int)<=rb.length:=by omega
       have hs2:=Q5.out w2 hk2
       by_cases hck:rc=k
       all_goals
        first|rw[if_pos hck]at hs2|rw[if_neg hck]at hs2
        first|rw[Option.map_some]at hs2|rw[Option.map_none]at hs2|skip
        have HS2:=ah hs2;clear hs2
        go_wp2_with (at_builtin;refine bH rV (.tmp 56) (.tmp 59) rfl rfl (Value.slice A2 (k+1) c2) rfl Q7.out _ rfl HS2.out (x9 _) kR.out nR.out ?_;intro A3 c3 w3 ho3 hg3 DT)
        have hL:=FH rb k s
        have hL2:k+1+(rb.length-k)=(kL rb k s).length:=by rw[hL];omega
        have hk3:Kept aj w0 w3:=hk2.grown hg3 (fun k' hk'=> .inr (DR.out k' hk'))
        have hB3:Below w.heap.size w w3:=hB0.trans (hk3.below hz0 (fun _ x=>x.elim))
        have Aw:w3.ownsRow 0 9 1 (.slice A3 (kL rb k s).length c3) (kL rb k s).length (strs (kL rb k s)):=by rw[<-hL2,show strs (kL rb k s)=strs (rb.take k)++[Value.string s]++strs (rb.drop k) by simp[kL,strs]];exact ho3
        have hn4:∀k',(Value.slice A3 (kL rb k s).length c3).ownBlock=some k'->w.heap.size<=k':=by
         rw[<-hL2];intro k' hk';rcases DT with h|h
         ·have:=DR.out k' (h.symm.trans hk');omega
         ·rw[hk']at h;injection h with h;omega
        have I7:(bl (kL rb k s)).Pairwise (· <·):=by rw[BI];exact Dw QZ.out Hz.out H2.out
        have hm4:∀y,y∈bl (kL rb k s)↔y∈bl (l.take (i+1)):=by intro y;rw[BI,Hq,nI.out,List.mem_append,List.mem_singleton,Hy.out y];exact or_comm
        have I8:=ah Aw;clear Aw ho3 hg3 DT
        have tZ:=ah hn4;clear hn4
        have Q8:=ah I7;clear I7
        have Q9:=ah hm4;clear hm4
        have HB4:=ah hB3;clear hB3
        have HL2:=ah hL2;clear hL2
        have kH:=ah hL;clear hL hck
        go_wp2_with fail
        go_roundw
        case rel=>exact⟨i+1,kL rb k s,A3,c3,by omega,by go_num,by rw[<-HL2.out],by rw[kH.out];omega,I8.out,Q8.out,Q9.out,tZ.out,HB4.out⟩
        case measure=>simp[intOf];omega
     |some td=>
      generalize hw0:World.drewN wr _=w0;have hk0:Kept aj wr w0:=by rw[<-hw0];exact(Kept.refl _ _).drewN _
      clear hw0;have hkw:=hkq.then hk0;have hB0:Below w.heap.size w w0:=HB.out.trans (hkw.below hsz (fun _ x=>x.elim));have hz0:=hB0.size;have hc0:∀W,Kept aj w0 W->W.cell? (ad.add i)=some (.string s):=fun W hW=>HC.out W (hB0.trans (hW.below hz0 (fun _ x=>x.elim)));have e5:=hc0 w0 (Kept.refl _ _);have xJ:=ah hc0;clear hc0;have e6:∀(n:Nat) (o:Obj),((w0.drewN n).alloc o).cell? (ad.add i)=some (.string s):=fun n o=>xJ.out _ (((Kept.refl _ _).drewN n).alloc o);have hsrc:=(Src.fA dX.out).kept hkw (fun _ _ x=>x);have I4:∀W,Kept aj w0 W->Src W 1 (some td) k (strs (rb.take k)):=fun W hW=>by have:=(hsrc.kept hW (fun _ _ x=>x)).take hk;rw[Nat.mul_one,<-List.map_take]at this;exact this
      have Kz:=ah I4;clear I4;have I5:∀W,Kept aj w0 W->Src W 1 (if rc=k then (some td)else Option.map (fun ad:Addr=>ad.add k) (some td)) (rb.length-k) (strs (rb.drop k)):=fun W hW=>by have:=(hsrc.kept hW (fun _ _ x=>x)).drop (cap:=rc) hk hcap.1;simp only[Nat.mul_one]at this;rw[<-List.map_drop]at this;exact this
      have Q5:=ah I5;clear I5 hsrc;have zh:Hid (0+k<=maxLen):=ah (by unfold maxLen;omega);have vU:Hid ((0+k)*16<=140737488355328):=ah (by omega);have kY:Hid (k+1<=maxLen):=ah (by unfold maxLen;omega);have Dh:Hid ((k+1)*16<=140737488355328):=ah (by omega);have kR:Hid (k+1+(rb.length-k)<=maxLen):=ah (by unfold maxLen;omega);have nR:Hid ((k+1+(rb.length-k))*16<=140737488355328):=ah (by omega);have hI1:(k:Int)<=(rc:Int):=by have:=hcap.1;omega
      clear e0
      go_region_law (first
       |(with_reducible apply jL rV (.tmp 45) (.tmp 48) (n:=0) (xs:=[]) (A:=some td) (m:=k) (c:=rc) (news:=strs (rb.take k))
         rfl
         rfl
         exact(rfl:_=Value.slice (some ⟨_,0,none⟩) 0 0)
         (refine pR (cs:=#[]) ?_ rfl;(repeat (with_reducible first|exact Has.dQ _ _ _ (by simp)|apply Has.drew|apply Has.drewN|apply Has.alloc|(apply Has.past<;>(try omega)))))
         exact(rfl:_=Value.slice (some td) k rc)
         (exact Kz.out _ (by(repeat'(first|(with_reducible first|exact ay|apply aA|apply aB|apply aC|apply aF)|(right;simp;done)))))
         exact x9 _
         exact zh.out
         exact vU.out
         intro A1 c1 w1 ho1 hg1 ha1
         have hk1:Kept aj w0 w1:=by refine Kept.grown ?_ hg1 ?_;(repeat'(first|(with_reducible first|exact ay|apply aA|apply aB|apply aC|apply aF)|(right;simp;done)));exact fun k hk=> .inr (oV hk (by first|(simp;done)|(simp;omega)|omega))
         have P0:=xJ.out w1 hk1
         have hz1:=hk1.size
         simp only[Nat.zero_add,List.nil_append]at ho1 ha1⊢)
       |(with_reducible apply jL rV (.tmp 49) (.tmp 54) (n:=k) (xs:=strs (rb.take k)) (m:=1) (c:=1) (news:=[.string s])
         rfl
         rfl
         exact(rfl:_=Value.slice A1 k c1)
         (refine aP ho1 (F:=aj) ?_ (fun _ _ x=>x);(repeat'(first|(with_reducible first|exact ay|apply aA|apply aB|apply aC|apply aF)|(right;simp;done))))
         exact(rfl:_=Value.slice (some ⟨_,0,none⟩) 1 1)
         (refine Src.kW (t:=9) (cs:=#[.string s]) ?_ rfl;(repeat (first|with_reducible exact Has.dQ _ _ _ (by simp)|with_reducible apply Has.drew|with_reducible apply Has.drewN|with_reducible apply Has.alloc|(with_reducible refine Has.grown ?_ hg1 (by simp[Value.ownBlock])))))
         (intro u hu;simp at hu;subst hu;rfl)
         exact kY.out
         exact Dh.out
         intro A2 c2 w2 ho2 hg2 ha2
         have hk2:Kept aj w0 w2:=by refine Kept.grown (Kept.then hk1 ?_) hg2 ?_;(repeat'(first|(with_reducible first|exact ay|apply aA|apply aB|apply aC|apply aF)|(right;simp;done)));exact fun k hk=> .inr (sU hk ha1 (by first|(simp;done)|(simp;omega)|omega) (by first|(simp;done)|(simp;omega)|omega))
         have hz2:=hk2.size))
      all_goals
       have hlow:∀k',(Value.slice A2 (k+1) c2).ownBlock=some k'->w0.heap.size<=k':=fun k' hk'=>Fe hk' ha2 ha1 (by first|(simp;done)|(simp;omega)|omega) (by first|(simp;done)|(simp;omega)|omega) (by first|(simp;done)|(simp;omega)|omega)
       have DR:=ah hlow;clear hlow
       have Q7:=ah ho2;clear ho2 ho1 hg1 hg2 ha1 ha2 P0 e5 e6
       have hkL:(k:Int)<=rb.length:=by omega
       have hs2:=Q5.out w2 hk2
       by_cases hck:rc=k
       all_goals
        first|rw[if_pos hck]at hs2|rw[if_neg hck]at hs2
        first|rw[Option.map_some]at hs2|rw[Option.map_none]at hs2|skip
        have HS2:=ah hs2;clear hs2
        go_wp2_with (at_builtin;refine bH rV (.tmp 56) (.tmp 59) rfl rfl (Value.slice A2 (k+1) c2) rfl Q7.out _ rfl HS2.out (x9 _) kR.out nR.out ?_;intro A3 c3 w3 ho3 hg3 DT)
        have hL:=FH rb k s
        have hL2:k+1+(rb.length-k)=(kL rb k s).length:=by rw[hL];omega
        have hk3:Kept aj w0 w3:=hk2.grown hg3 (fun k' hk'=> .inr (DR.out k' hk'))
        have hB3:Below w.heap.size w w3:=hB0.trans (hk3.below hz0 (fun _ x=>x.elim))
        have Aw:w3.ownsRow 0 9 1 (.slice A3 (kL rb k s).length c3) (kL rb k s).length (strs (kL rb k s)):=by rw[<-hL2,show strs (kL rb k s)=strs (rb.take k)++[Value.string s]++strs (rb.drop k) by simp[kL,strs]];exact ho3
        have hn4:∀k',(Value.slice A3 (kL rb k s).length c3).ownBlock=some k'->w.heap.size<=k':=by
         rw[<-hL2];intro k' hk';rcases DT with h|h
         ·have:=DR.out k' (h.symm.trans hk');omega
         ·rw[hk']at h;injection h with h;omega
        have I7:(bl (kL rb k s)).Pairwise (· <·):=by rw[BI];exact Dw QZ.out Hz.out H2.out
        have hm4:∀y,y∈bl (kL rb k s)↔y∈bl (l.take (i+1)):=by intro y;rw[BI,Hq,nI.out,List.mem_append,List.mem_singleton,Hy.out y];exact or_comm
        have I8:=ah Aw;clear Aw ho3 hg3 DT
        have tZ:=ah hn4;clear hn4
        have Q8:=ah I7;clear I7
        have Q9:=ah hm4;clear hm4
        have HB4:=ah hB3;clear hB3
        have HL2:=ah hL2;clear hL2
        have kH:=ah hL;clear hL hck
        go_wp2_with fail
        go_roundw
        case rel=>exact⟨i+1,kL rb k s,A3,c3,by omega,by go_num,by rw[<-HL2.out],by rw[kH.out];omega,I8.out,Q8.out,Q9.out,tZ.out,HB4.out⟩
        case measure=>simp[intOf];omega
  ·obtain rfl:i=l.length:=by omega
   have hset:rb=setB l:=by
    have h1:bl rb=Ce (bl l):=Ot QZ.out (fun y=>by rw[Hy.out y,List.take_length]);unfold setB;rw[<-h1];unfold bl;rw[List.map_map];conv=>lhs;rw[<-List.map_id rb]
    congr 1;funext x;simp[ByteArray.toList_eq]
   subst hset;go_wp2;go_ret;exact⟨R,rc,rfl,dX.out,mF.out,HB.out⟩
end Keys
end Go.Proofs.YtgbigpdiacjbgaaGreat
namespace Go.Proofs.YtgbigpdiacjbgaaGreat
open Go.RowKit Go.Maps
namespace Ops
open Vn
theorem Gl:Elem Tryz.prog 23 143 3 40:=by obtain⟨i0,hi,hz0,hz1,hz2⟩:=info_parts (show(Tryz.prog.info? 143).map (fun i=>(i.zero,i.size,i.bytes))=some (some (.agg #[.string ⟨#[]⟩,.string ⟨#[]⟩,.bool false]),3,40) by kernel_rfl);exact⟨Tryz.underlying23,⟨i0,_,hi,hz0,hz1,hz2,rfl⟩,by decide⟩

/- Part 27 of what the proof needs. -/
import Derived.Test.YtfjdpbbgfjhnlaaGreatMK25
set_option linter.unusedSimpArgs false
set_option linter.unusedVariables false
set_option maxHeartbeats 32000000
set_option maxRecDepth 100000
namespace Go.Proofs.YtfjdpbbgfjhnlaaGreat
open Go.RowKit Go.Shelf
set_option maxRecDepth 100000
namespace gZ
open aO Ops xE Vn MW
theorem YI{w:World}{A:Option Addr}{m:Nat}{l:List Int}(h:Src w 1 A m (xq l))(hm:0<m)(i:Nat)(x:Int)(hx:l[i]? =some x):
  ∃ad,A=some ad/\ad.block<w.heap.size/\w.cell? (ad.add i)=some (.int .u64 x):=by
 obtain⟨ad,rfl,had,hcell⟩:=h.2 hm
 exact⟨ad,rfl,had,hcell i _ (by unfold xq;rw[List.getElem?_map,hx];rfl)⟩
section
variable{N:Nat}{w w0:World}{g:Nat}{bs:List UInt8}{keep:List KB}{x:bF}
theorem Rl(c:Nat)(hl:c∈letters)(hn:c≠69/\c≠83/\c≠82)(h:WS N w g bs keep)(hr:Room N w0 w bs x)(hw:cZ x c=0):Calls Tryz.prog 232 #[.pointer (some ⟨g,0,none⟩),gK x,.int .i32 c] w (qp N w g (bs++fU x c) keep):=by
 obtain⟨W0,hW0⟩:∃W0,w.alloc (.cells (aI x).toArray 45)=W0:=⟨_,rfl⟩
 have hs0:WS N W0 g bs ((w.heap.size,.cells (aI x).toArray 45)::keep):=by rw[<-hW0];exact h.add _
 have hb0:Below N w W0:=by rw[<-hW0];exact jh h _
 have hk0:Kept aj w W0:=by rw[<-hW0];(repeat'(first|(with_reducible first|exact ak|apply au|apply ay|apply aA|apply aB)|(right;simp;done)))
 have hn0:Has W0 w.heap.size 45 (aI x).toArray:=hs0.has (List.mem_cons_self ..)
 have hcall:=YH c hl hn hs0 (w0:=w0) ⟨hr.x,hr.k.then hk0,hr.n,hr.len⟩ hw
 have HC:=ah hcall;have HB:=ah hb0;have dO:=ah hn0
 have g1:((c:Int)==69)=false:=by simpa using(by omega:(c:Int)≠69)
 have g2:((c:Int)==83)=false:=by simpa using(by omega:(c:Int)≠83)
 have g3:((c:Int)==82)=false:=by simpa using(by omega:(c:Int)≠82)
 clear hn hl hw h hr hs0 hk0 hn0 hb0 hcall
 obtain⟨ci,hci⟩:∃ci:Int,(c:Int)=ci:=⟨_,rfl⟩
 rw[hci]at g1 g2 g3 HC⊢
 clear hci
 go_enter Tryz.func232,Tryz.ntmps232
 go_wp2_with (refine wpList_load_row rfl 45 (.tmp 4) rfl w.heap.size rfl 45 _ (0,0) _ dO.out Tryz.underlying45 rfl (by kernel_rfl) ?_)
 clear hW0
 refine HC.out.mono ?_
 rintro e w3 ⟨rfl,hs3,hb3⟩
 have jZ:=ah hs3.tail;have HB3:=ah (HB.out.trans hb3);clear hs3 hb3
 go_wp2
 go_end0
 exact⟨rfl,jZ.out,HB3.out⟩
theorem abt(h:WS N w g bs keep)(hr:Room N w0 w bs x)(hw:cZ x 69=0):Calls Tryz.prog 232 #[.pointer (some ⟨g,0,none⟩),gK x,.int .i32 ((69:Nat):Int)] w (qp N w g (bs++fU x 69) keep):=by
 have hE:fU x 69=put x.es.length++x.es.flatMap fun y:kZ=>dK (nM y):=rfl
 rw[hE]
 obtain⟨W0,hW0⟩:∃W0,w.alloc (.cells (aI x).toArray 45)=W0:=⟨_,rfl⟩
 have hs0:WS N W0 g bs ((w.heap.size,.cells (aI x).toArray 45)::keep):=by rw[<-hW0];exact h.add _
 have hb0:Below N w W0:=by rw[<-hW0];exact jh h _
 have hsl:∀W b,WS N W g b ((w.heap.size,.cells (aI x).toArray 45)::keep)->W.cell? ⟨w.heap.size,19,none⟩=some (.slice x.eA x.es.length x.ec):=fun W b hW=>Has.cell (t:=45) (hW.has (List.mem_cons_self ..)) 19
 have hn:x.es.length<=4:=by
  by_cases hr:4<x.es.length
  ·have hw2:(if 4<x.es.length then (6:Int)else dY (fun y=>Ops.chk (oK y)) x.es)=0:=hw
   rw[if_pos hr]at hw2;cases hw2
  ·omega
 have hlen:=hr.len
 have HR:=ah hr;have HN:=ah hn;have kQ:=ah hlen;have xJ:=ah hsl;have HW:=ah hw
 clear hn hlen hr h hE hsl hw
 obtain⟨l,hl⟩:∃l,x.es=l:=⟨_,rfl⟩
 rw[hl]at HN xJ⊢
 obtain⟨A,hA⟩:∃A,x.eA=A:=⟨_,rfl⟩
 rw[hA]at xJ
 have q:=xJ.out _ _ hs0
 have HL:=ah hl;have HA:=ah hA
 have yU:=ah hs0;have HB0:=ah hb0
 clear hs0 hb0 hl hA
 go_enter Tryz.func232,Tryz.ntmps232
 go_wp2_with fail
 clear hW0
 refine(gX yU.out l.length (by have:=HN.out;omega) (by have:=kQ.out;omega)).mono ?_
 rintro e w3 ⟨rfl,hs3,hb3⟩
 have q3:=xJ.out _ _ hs3
 have jZ:=ah hs3;have HB3:=ah (HB0.out.trans hb3);clear hs3 hb3
 go_wp2
 have heo:∀y∈l,0<=y.ts/\y.ts<=aT:=fun y hy=>(HR.out.x.eo y (by rw[HL.out];exact hy)).2
 have O9:=ah heo;clear heo
 go_loopw [29] (fun v wr=>∃i:Nat,i<=l.length/\v=.int .i64 i/\WS N wr g (bs++put l.length++(l.take i).flatMap (fun y:kZ=>dK (nM y))) ((w.heap.size,.cells (aI x).toArray 45)::keep)/\Below N w wr) (fun v _=>l.length-(intOf v).toNat)
 case atStart=>exact⟨0,Nat.zero_le _,rfl,by simpa using jZ.out,HB3.out⟩
 case round=>
  obtain⟨i,hi,rfl,hws,hbw⟩:=hrel
  have xK:=ah hbw;clear hbw
  have hkw:=behind HR.out.k xK.out HR.out.n
  have nJ:=ah hkw;clear hkw
  have hnl:=HN.out
  by_cases hil:i<l.length
  ·obtain⟨y,hy⟩:∃y,l[i]? =some y:=⟨_,List.getElem?_eq_getElem hil⟩
   have hyi:l[i]=y:=by rw[List.getElem?_eq_getElem hil]at hy;exact Option.some.inj hy
   have hym:=List.mem_of_getElem? hy
   have iF:=qP (fun y:kZ=>dK (nM y)) l i hil
   rw[hyi]at iF
   have hfl:=nR (fun y:kZ=>dK (nM y)) (l.take (i+1)) 130 (fun y hy2=>by
    have hy:=List.mem_of_mem_take hy2
    have:=jr (s:=nM y) (m:=121) (yx (O9.out y hy)) (by omega)
    omega)
   rw[iF,List.length_append]at hfl
   have hmin:(l.take (i+1)).length<=4:=by rw[List.length_take];have:=HN.out;omega
   have hp:=bH (n:=l.length) (by have:=HN.out;omega)
   have pW:(bs++put l.length++(l.take i).flatMap (fun y:kZ=>dK (nM y))).length<=110000:=by rw[List.length_append,List.length_append];have:=kQ.out;omega
   obtain⟨cur,hcur⟩:∃cur,bs++put l.length++(l.take i).flatMap (fun y:kZ=>dK (nM y))=cur:=⟨_,rfl⟩
   rw[hcur]at hws pW
   have hnext:bs++put l.length++(l.take (i+1)).flatMap (fun y:kZ=>dK (nM y))=cur++dK (nM y):=by
    rw[iF,<-List.append_assoc,hcur]
   have hx:=HR.out.x.kept nJ.out
   have hsrc:=hx.e
   rw[HL.out,HA.out]at hsrc
   obtain⟨ad,rfl,had,e0,e1,e2,e3⟩:=Kt hsrc (by omega) i y hy
   have hyo:=hx.eo y (by rw[HL.out];exact hym)
   have hsz:=yx hyo.2
   have hcall:=NT (wr.alloc (.cells #[.int .i64 y.cl,.int .i64 y.req,.slice y.A y.ops.length y.c,.int .u64 y.ts] 81)) y (hyo.1.kept ((Kept.refl aj wr).alloc _) (fun _ _ z=>z)) hyo.2
   obtain⟨s,hs⟩:∃s,nM y=s:=⟨_,rfl⟩
   obtain⟨z,hz⟩:∃z,Ops.chk (oK y)=z:=⟨_,rfl⟩
   rw[hs,hz]at hcall
   rw[hs]at hnext hsz
   have nV:=ah hnext;have jy:=ah pW;have HC:=ah hcall;have lD:=ah hsz;have yG:=ah hws
   clear hnext iF hfl hcur hmin hy hyi hym hp pW hx hsrc hyo hsz hcall hs hz hws
   go_wp2_with fail
   refine HC.out.mono ?_
   rintro e w4 ⟨rfl,hk4⟩
   have hs4:=WS.kept (G:=aj) (WS.alloc yG.out _) hk4
   have hb4:Below N w w4:=(xK.out.trans (jh yG.out _)).trans (hk4.below (WS.alloc yG.out _).1 (fun _ z=>z.elim))
   have qW:=ah hs4;have HB4:=ah hb4;clear hs4 hb4 hk4
   go_wp2_with fail
   refine(pz qW.out s (by have:=lD.out;have:=jy.out;omega)).mono ?_
   rintro e w5 ⟨rfl,hs5,hb5⟩
   rw[<-nV.out]at hs5
   have pI:=ah hs5;have jf:=ah (HB4.out.trans hb5);clear hs5 hb5
   go_wp2
   go_roundw
   case rel=>exact⟨i+1,by omega,by go_num,pI.out,jf.out⟩
   case measure=>simp[intOf];omega
  ·obtain rfl:i=l.length:=by omega
   rw[List.take_length,List.append_assoc]at hws
   have yG:=ah hws.tail;clear hws
   go_wp2
   go_end0
   exact⟨rfl,yG.out,xK.out⟩
theorem abu(h:WS N w g bs keep)(hr:Room N w0 w bs x)(hw:cZ x 83=0):Calls Tryz.prog 232 #[.pointer (some ⟨g,0,none⟩),gK x,.int .i32 ((83:Nat):Int)] w (qp N w g (bs++fU x 83) keep):=by
 have hE:fU x 83=put x.ss.length++x.ss.flatMap fun y:Int=>put y.toNat:=rfl
 rw[hE]
 obtain⟨W0,hW0⟩:∃W0,w.alloc (.cells (aI x).toArray 45)=W0:=⟨_,rfl⟩
 have hs0:WS N W0 g bs ((w.heap.size,.cells (aI x).toArray 45)::keep):=by rw[<-hW0];exact h.add _
 have hb0:Below N w W0:=by rw[<-hW0];exact jh h _
 have hsl:∀W b,WS N W g b ((w.heap.size,.cells (aI x).toArray 45)::keep)->W.cell? ⟨w.heap.size,20,none⟩=some (.slice x.sA x.ss.length x.sc):=fun W b hW=>Has.cell (t:=45) (hW.has (List.mem_cons_self ..)) 20
 have hn:x.ss.length<=8:=by
  by_cases hr:8<x.ss.length
  ·have hw2:(if 8<x.ss.length then (6:Int)else 0)=0:=hw
   rw[if_pos hr]at hw2;cases hw2
  ·omega
 have hlen:=hr.len
 have HR:=ah hr;have HN:=ah hn;have kQ:=ah hlen;have xJ:=ah hsl;have HW:=ah hw
 clear hn hlen hr h hE hsl hw
 obtain⟨l,hl⟩:∃l,x.ss=l:=⟨_,rfl⟩
 rw[hl]at HN xJ⊢
 obtain⟨A,hA⟩:∃A,x.sA=A:=⟨_,rfl⟩
 rw[hA]at xJ
 have q:=xJ.out _ _ hs0
 have HL:=ah hl;have HA:=ah hA
 have yU:=ah hs0;have HB0:=ah hb0
 clear hs0 hb0 hl hA
 go_enter Tryz.func232,Tryz.ntmps232
 go_wp2_with fail
 clear hW0
 refine(gX yU.out l.length (by have:=HN.out;omega) (by have:=kQ.out;omega)).mono ?_
 rintro e w3 ⟨rfl,hs3,hb3⟩
 have q3:=xJ.out _ _ hs3
 have jZ:=ah hs3;have HB3:=ah (HB0.out.trans hb3);clear hs3 hb3
 go_wp2
 have heo:∀y∈l,0<=y/\y<=18446744073709551615:=fun y hy=>HR.out.x.so y (by rw[HL.out];exact hy)
 have O9:=ah heo;clear heo
 go_loopw [52] (fun v wr=>∃i:Nat,i<=l.length/\v=.int .i64 i/\WS N wr g (bs++put l.length++(l.take i).flatMap (fun y:Int=>put y.toNat)) ((w.heap.size,.cells (aI x).toArray 45)::keep)/\Below N w wr) (fun v _=>l.length-(intOf v).toNat)
 case atStart=>exact⟨0,Nat.zero_le _,rfl,by simpa using jZ.out,HB3.out⟩
 case round=>
  obtain⟨i,hi,rfl,hws,hbw⟩:=hrel
  have xK:=ah hbw;clear hbw
  have hkw:=behind HR.out.k xK.out HR.out.n
  have nJ:=ah hkw;clear hkw
  have hnl:=HN.out
  by_cases hil:i<l.length
  ·obtain⟨y,hy⟩:∃y,l[i]? =some y:=⟨_,List.getElem?_eq_getElem hil⟩
   have hyi:l[i]=y:=by rw[List.getElem?_eq_getElem hil]at hy;exact Option.some.inj hy
   have hym:=List.mem_of_getElem? hy
   have iF:=qP (fun y:Int=>put y.toNat) l i hil
   rw[hyi]at iF
   have hfl:=nR (fun y:Int=>put y.toNat) (l.take (i+1)) 9 (fun y hy2=>by
    have hy:=List.mem_of_mem_take hy2
    have b:=O9.out y hy
    exact bH (by omega))
   rw[iF,List.length_append]at hfl
   have hmin:(l.take (i+1)).length<=8:=by rw[List.length_take];have:=HN.out;omega
   have hp:=bH (n:=l.length) (by have:=HN.out;omega)
   have pW:(bs++put l.length++(l.take i).flatMap (fun y:Int=>put y.toNat)).length<=110000:=by rw[List.length_append,List.length_append];have:=kQ.out;omega
   obtain⟨cur,hcur⟩:∃cur,bs++put l.length++(l.take i).flatMap (fun y:Int=>put y.toNat)=cur:=⟨_,rfl⟩
   rw[hcur]at hws pW
   have hnext:bs++put l.length++(l.take (i+1)).flatMap (fun y:Int=>put y.toNat)=cur++put y.toNat:=by
    rw[iF,<-List.append_assoc,hcur]
   have hsrc:=(HR.out.x.kept nJ.out).s
   rw[HL.out,HA.out]at hsrc
   obtain⟨ad,rfl,had,e0⟩:=YI hsrc (by omega) i y hy
   have hyo:=O9.out y hym
   obtain⟨n,rfl⟩:∃n:Nat,y=n:=⟨y.toNat,by omega⟩
   rw[Int.toNat_natCast]at hnext
   have nV:=ah hnext;have jy:=ah pW;have HYO:=ah hyo;have yG:=ah hws
   clear hnext iF hfl hcur hmin hy hyi hym hp pW hsrc hyo hws
   go_wp2_with fail
   refine(xO yG.out n (by have:=HYO.out;omega) (by have:=jy.out;omega)).mono ?_
   rintro e w5 ⟨rfl,hs5,hb5⟩
   rw[<-nV.out]at hs5
   have pI:=ah hs5;have jf:=ah (xK.out.trans hb5);clear hs5 hb5
   go_wp2
   go_roundw
   case rel=>exact⟨i+1,by omega,by go_num,pI.out,jf.out⟩
   case measure=>simp[intOf];omega
  ·obtain rfl:i=l.length:=by omega
   rw[List.take_length,List.append_assoc]at hws
   have yG:=ah hws.tail;clear hws
   go_wp2
   go_end0
   exact⟨rfl,yG.out,xK.out⟩
theorem abv(h:WS N w g bs keep)(hr:Room N w0 w bs x)(hw:cZ x 82=0):Calls Tryz.prog 232 #[.pointer (some ⟨g,0,none⟩),gK x,.int .i32 ((82:Nat):Int)] w (qp N w g (bs++fU x 82) keep):=by
 have hE:fU x 82=put x.ps.length++x.ps.flatMap fun y:lU=>dK y.key++dK y.val:=rfl
 rw[hE]
 obtain⟨W0,hW0⟩:∃W0,w.alloc (.cells (aI x).toArray 45)=W0:=⟨_,rfl⟩
 have hs0:WS N W0 g bs ((w.heap.size,.cells (aI x).toArray 45)::keep):=by rw[<-hW0];exact h.add _
 have hb0:Below N w W0:=by rw[<-hW0];exact jh h _
 have hsl:∀W b,WS N W g b ((w.heap.size,.cells (aI x).toArray 45)::keep)->W.cell? ⟨w.heap.size,21,none⟩=some (.slice x.pA x.ps.length x.pc):=fun W b hW=>Has.cell (t:=45) (hW.has (List.mem_cons_self ..)) 21
 have hn:x.ps.length<=32:=by
  by_cases hr:32<x.ps.length
  ·have hw2:(if 32<x.ps.length then (6:Int)else dY qJ x.ps)=0:=hw
   rw[if_pos hr]at hw2;cases hw2
  ·omega
 have hlen:=hr.len
 have HR:=ah hr;have HN:=ah hn;have kQ:=ah hlen;have xJ:=ah hsl;have HW:=ah hw
 clear hn hlen hr h hE hsl hw
 obtain⟨l,hl⟩:∃l,x.ps=l:=⟨_,rfl⟩
 rw[hl]at HN xJ⊢
 obtain⟨A,hA⟩:∃A,x.pA=A:=⟨_,rfl⟩
 rw[hA]at xJ
 have q:=xJ.out _ _ hs0
 have HL:=ah hl;have HA:=ah hA
 have yU:=ah hs0;have HB0:=ah hb0
 clear hs0 hb0 hl hA
 go_enter Tryz.func232,Tryz.ntmps232
 go_wp2_with fail
 clear hW0
 refine(gX yU.out l.length (by have:=HN.out;omega) (by have:=kQ.out;omega)).mono ?_
 rintro e w3 ⟨rfl,hs3,hb3⟩
 have q3:=xJ.out _ _ hs3
 have jZ:=ah hs3;have HB3:=ah (HB0.out.trans hb3);clear hs3 hb3
 go_wp2
 have heo:∀y∈l,y.key.size<=8/\y.val.size<=8:=by
  have hw2:(if 32<x.ps.length then (6:Int)else dY qJ x.ps)=0:=HW.out
  rw[if_neg (by rw[HL.out];have:=HN.out;omega),HL.out]at hw2
  intro y hy
  have hy0:=yw hw2 y hy
  unfold qJ keyE at hy0
  by_cases e1:y.key.size<1\/8<y.key.size
  ·rw[if_pos e1,if_pos (by decide)]at hy0;cases hy0
  ·rw[if_neg e1,if_neg (by decide)]at hy0
   refine⟨by omega,?_⟩
   by_cases e2:8<y.val.size
   ·rw[if_pos e2]at hy0;cases hy0
   ·omega
 have O9:=ah heo;clear heo
 go_loopw [70] (fun v wr=>∃i:Nat,i<=l.length/\v=.int .i64 i/\WS N wr g (bs++put l.length++(l.take i).flatMap (fun y:lU=>dK y.key++dK y.val)) ((w.heap.size,.cells (aI x).toArray 45)::keep)/\Below N w wr) (fun v _=>l.length-(intOf v).toNat)
 case atStart=>exact⟨0,Nat.zero_le _,rfl,by simpa using jZ.out,HB3.out⟩
 case round=>
  obtain⟨i,hi,rfl,hws,hbw⟩:=hrel
  have xK:=ah hbw;clear hbw
  have hkw:=behind HR.out.k xK.out HR.out.n
  have nJ:=ah hkw;clear hkw
  have hnl:=HN.out
  by_cases hil:i<l.length
  ·obtain⟨y,hy⟩:∃y,l[i]? =some y:=⟨_,List.getElem?_eq_getElem hil⟩
   have hyi:l[i]=y:=by rw[List.getElem?_eq_getElem hil]at hy;exact Option.some.inj hy
   have hym:=List.mem_of_getElem? hy
   have iF:=qP (fun y:lU=>dK y.key++dK y.val) l i hil
   rw[hyi]at iF
   have hfl:=nR (fun y:lU=>dK y.key++dK y.val) (l.take (i+1)) 34 (fun y hy2=>by
    have hy:=List.mem_of_mem_take hy2
    have b:=O9.out y hy
    have b1:=jr (s:=y.key) (m:=8) (by omega) (by omega)
    have b2:=jr (s:=y.val) (m:=8) (by omega) (by omega)
    rw[List.length_append];omega)
   rw[iF,List.length_append]at hfl
   have hmin:(l.take (i+1)).length<=32:=by rw[List.length_take];have:=HN.out;omega
   have hp:=bH (n:=l.length) (by have:=HN.out;omega)
   have pW:(bs++put l.length++(l.take i).flatMap (fun y:lU=>dK y.key++dK y.val)).length<=110000:=by rw[List.length_append,List.length_append];have:=kQ.out;omega
   obtain⟨cur,hcur⟩:∃cur,bs++put l.length++(l.take i).flatMap (fun y:lU=>dK y.key++dK y.val)=cur:=⟨_,rfl⟩
   rw[hcur]at hws pW
   have hnext:bs++put l.length++(l.take (i+1)).flatMap (fun y:lU=>dK y.key++dK y.val)=(cur++dK y.key)++dK y.val:=by
    rw[iF,<-List.append_assoc,hcur]
    simp only[List.append_assoc]
   have hsrc:=(HR.out.x.kept nJ.out).p
   rw[HL.out,HA.out]at hsrc
   obtain⟨ad,rfl,had,e0,e1⟩:=pair_cells hsrc (by omega) i y hy
   have hyo:=O9.out y hym
   have b1:=jr (s:=y.key) (m:=8) (by omega) (by omega)
   have hw0:=hws.add (.cells #[.string y.key,.string y.val] 304)
   have hos:∀W b,WS N W g b ((wr.heap.size,.cells #[.string y.key,.string y.val] 304)::(w.heap.size,.cells (aI x).toArray 45)::keep)->(W.cell? ⟨wr.heap.size,0,none⟩=some (.string y.key)/\W.cell? ⟨wr.heap.size,1,none⟩=some (.string y.val)):=
    fun W b hW=>⟨Has.cell (t:=304) (hW.has (List.mem_cons_self ..)) 0,Has.cell (t:=304) (hW.has (List.mem_cons_self ..)) 1⟩
   have hbx:=xK.out.trans (jh hws (.cells #[.string y.key,.string y.val] 304))
   have nV:=ah hnext;have jy:=ah pW;have HYO:=ah (And.intro hyo b1);have HW0:=ah hw0;have Dq:=ah hos;have Dy:=ah hbx
   clear hnext iF hfl hcur hmin hy hyi hym hp pW hsrc hyo hws hw0 hos b1 hbx
   have r0:=Dq.out _ _ HW0.out
   go_wp2_with fail
   go_region_held3 (fun W=>W.cell? ⟨wr.heap.size,0,none⟩=some (.string y.key)/\W.cell? ⟨wr.heap.size,1,none⟩=some (.string y.val)) (first|with_reducible exact r2|with_reducible exact r1|with_reducible exact r0|(simp[go_sem,r0];done))
    (first
     |(have hx:=qQ;clear hx;go_at_call 120;refine(pz (by exact qQ.out) y.val (by have:=jy.out;have:=HYO.out;simp;omega)).mono ?_;rintro e w4 ⟨rfl,hv2,hd2⟩;have r2:=Dq.out _ _ hv2;have rW:=ah hv2;have HD2:=ah hd2;clear hv2 hd2)
     |(go_at_call 120;refine(pz (by exact HW0.out) y.key (by have:=jy.out;have:=HYO.out;omega)).mono ?_;rintro e w3 ⟨rfl,hv1,hd1⟩;have r1:=Dq.out _ _ hv1;have qQ:=ah hv1;have HD1:=ah hd1;clear hv1 hd1))
   have hb4:Below N w w4:=(Dy.out.drew.trans HD1.out).trans HD2.out
   have hv:=rW.out.tail
   rw[<-nV.out]at hv
   have HV:=ah hv;have HB4:=ah hb4;clear hv hb4
   go_wp2
   go_roundw
   case rel=>exact⟨i+1,by omega,by go_num,HV.out,HB4.out⟩
   case measure=>simp[intOf];omega
  ·obtain rfl:i=l.length:=by omega
   rw[List.take_length,List.append_assoc]at hws
   have yG:=ah hws.tail;clear hws
   go_wp2
   go_end0
   exact⟨rfl,yG.out,xK.out⟩
theorem write_any(c:Nat)(hl:c∈letters)(h:WS N w g bs keep)(hr:Room N w0 w bs x)(hw:cZ x c=0):Calls Tryz.prog 232 #[.pointer (some ⟨g,0,none⟩),gK x,.int .i32 c] w (qp N w g (bs++fU x c) keep):=by
 by_cases h1:c=69
 ·subst h1;exact abt h hr hw
 by_cases h2:c=83
 ·subst h2;exact abu h hr hw
 by_cases h3:c=82
 ·subst h3;exact abv h hr hw
 exact Rl c hl ⟨h1,h2,h3⟩ h hr hw
end
end gZ
namespace gZ
open aO Ops xE Vn MW
theorem adG{x:bF}(h:o9 x=0):isKind x.k=true/\∀c∈partsOf x.k,cZ x c=0:=by
 unfold o9 at h
 by_cases hk:isKind x.k=true
 ·rw[if_pos hk]at h;exact⟨hk,yw h⟩
 ·rw[if_neg hk]at h;cases h
theorem abw(w:World)(x:bF)(h:iZ w x):Calls Tryz.prog 172 #[gK x] w fun e w'=>e=.returned (.tuple #[.string (DY x),.int .i64 (o9 x)])/\Kept aj w w':=by
 obtain⟨W0,hW0⟩:∃W0,w.alloc (.cells (aI x).toArray 45)=W0:=⟨_,rfl⟩
 have hk0:Kept aj w W0:=by rw[<-hW0];(repeat'(first|(with_reducible first|exact ak|apply au|apply ay|apply aA|apply aB)|(right;simp;done)))
 have hn0:Has W0 w.heap.size 45 (aI x).toArray:=by rw[<-hW0];exact Has.new _ _ _
 have eu:=Ib W0 x (h.kept hk0)
 have bf:=ah hk0;have dO:=ah hn0;have HX:=ah h
 have hlt0:w.heap.size<W0.heap.size:=hn0.lt
 clear hk0 hn0 h
 by_cases hz:o9 x=0
 rotate_left
 ·have hr:DY x=emp:=by unfold DY;rw[if_neg hz]
  rw[hr]
  obtain⟨z,hz1⟩:∃z,o9 x=z:=⟨_,rfl⟩
  rw[hz1]at hz eu⊢
  have hz2:(z !=0)=true:=by simpa using hz
  have HC:=ah eu
  clear hr hz hz1 eu hlt0
  go_enter Tryz.func172,Tryz.ntmps172
  go_wp2_with (refine wpList_load_row rfl 45 (.tmp 1) rfl w.heap.size rfl 45 _ (0,0) _ dO.out Tryz.underlying45 rfl (by kernel_rfl) ?_)
  clear hW0
  refine HC.out.mono ?_
  rintro e w2 ⟨rfl,hk⟩
  have HK:=ah (bf.out.then hk);clear hk
  go_wp2
  go_ret2
  exact⟨rfl,HK.out⟩
 have hr:DY x=bG (aad x):=by unfold DY;rw[if_pos hz]
 rw[hr]
 obtain⟨hkk,hwr⟩:=adG hz
 rw[hz]at eu⊢
 have abx:1<=x.k/\x.k<=15:=of_decide_eq_true hkk
 have hp:=fun W=>Ku W x.k hkk
 have hlet:=Dk x.k
 have Dz:=Wj x.k
 have hpm:aad x=put x.k.toNat++(partsOf x.k).flatMap (fU x):=rfl
 rw[hpm]
 obtain⟨l,hl⟩:∃l,partsOf x.k=l:=⟨_,rfl⟩
 rw[hl]at hp hlet Dz hwr⊢
 obtain⟨k,hk⟩:∃k:Nat,x.k=k:=⟨x.k.toNat,by omega⟩
 have hq:∀W,Has W w.heap.size 45 (aI x).toArray->W.cell? ⟨w.heap.size,0,none⟩=some (.int .i64 (k:Int)):=fun W hW=>by
  have h0:W.cell? ⟨w.heap.size,0,none⟩=some (.int .i64 x.k):=hW.cell 0
  rw[hk]at h0
  exact h0
 rw[hk]at hp abx⊢
 rw[Int.toNat_natCast]
 have HC:=ah eu;have HP:=ah hp;have Ua:=ah hlet;have YJ:=ah Dz;have qM:=ah hwr;have HQ:=ah hq;have Pe:=ah abx;have aib:=ah hlt0
 clear eu hp hlet Dz hwr hq hz hr hkk hk hl hpm abx hlt0
 have q0:=HQ.out _ dO.out
 go_enter Tryz.func172,Tryz.ntmps172
 go_wp2_with (refine wpList_load_row rfl 45 (.tmp 1) rfl w.heap.size rfl 45 _ (0,0) _ dO.out Tryz.underlying45 rfl (by kernel_rfl) ?_)
 clear hW0 q0
 refine HC.out.mono ?_
 rintro e w2 ⟨rfl,hk2⟩
 have dL:=ah (dO.out.kept hk2 (fun z=>z));have aW:=ah (bf.out.then hk2);clear hk2
 have q0:=HQ.out _ dL.out
 go_wp2_with fail
 clear q0
 refine(HP.out _).mono ?_
 rintro e w3 ⟨rfl,hk3⟩
 have mF:=ah (dL.out.kept hk3 (fun z=>z));have bn:=ah (aW.out.then hk3);clear hk3
 have c0:=HQ.out _ mF.out
 have hnew:∀W,Has W w.heap.size 45 (aI x).toArray->Calls Tryz.prog 117 #[] W fun e w'=>∃g,e=.returned (.pointer (some ⟨g,0,none⟩))/\WS W.heap.size w' g [] [(w.heap.size,.cells (aI x).toArray 45)]/\Kept aj W w':=
  fun W hW=>rF W _ (fun y hy=>by simp at hy;subst hy;exact hW)
 have fH:=ah hnew;clear hnew
 go_wp2_with fail
 go_region_held3 (fun W=>W.cell? ⟨w.heap.size,0,none⟩=some (.int .i64 (k:Int))) (first|with_reducible exact q5|with_reducible exact q4|with_reducible exact c0|(simp[go_sem,c0];done))
  (first
   |(go_at_call 117;refine(fH.out _ (by exact mF.out)).mono ?_;rintro e w4 ⟨g,rfl,hw4,lJ⟩;have q4:=HQ.out _ (hw4.has (List.mem_singleton.2 rfl));have kC:=ah hw4;have lK:=ah lJ;clear hw4 lJ)
   |(go_at_call 118;refine(gX (by exact kC.out) k (by have:=Pe.out;omega) (by simp)).mono ?_;rintro e w5 ⟨rfl,hw5,hb5⟩;have q5:=HQ.out _ (hw5.has (List.mem_singleton.2 rfl));have dS:=ah hw5;have jf:=ah hb5;clear hw5 hb5))
 have hk4:Kept aj w w4:=Kept.then (by(repeat'(first|(with_reducible first|exact ak|apply au|apply ay|apply aA|apply aB)|(with_reducible exact bn.out)|(right;simp;done)))) lK.out
 have hle:w.heap.size<=w3.heap.size:=bn.out.size
 have hk5:Kept aj w w5:=behind hk4 jf.out hle
 have hw5:=dS.out
 simp only[List.nil_append]at hw5
 have hN:(w3.drewN 0).heap.size=w3.heap.size:=rfl
 clear q4 q5 c0 kC dS jf lK hk4 fH HC HP hN
 have dS:=ah hw5;have cO:=ah hk5;have jk:=ah hle;clear hw5 hk5 hle
 have acM:=bH (n:=k) (by have:=Pe.out;omega)
 have hne:put k≠[]:=by
  intro e
  have h1:=put_pos k
  rw[e]at h1
  simp at h1
 have HH:=ah (And.intro acM hne);clear acM hne
 go_wp2_with fail
 go_loopg [] l.length (fun gf wx=>∃i:Nat,i<=l.length/\WS w3.heap.size wx g (put k++(l.take i).flatMap (fU x)) [(w5.heap.size,.stringIter (lets l) i),(w.heap.size,.cells (aI x).toArray 45)]/\Kept aj w wx/\l.length<=i+gf)
 case atStart=>exact⟨0,Nat.zero_le _,(by rw[List.take_zero,List.flatMap_nil,List.append_nil];exact dS.out.add (.stringIter (lets l) 0)),cO.out.alloc _,by omega⟩
 case round=>
  obtain⟨i,hi,hws,hk,hfu⟩:=hrel
  have HK:=ah hk;clear hk
  have hit:wr.heap[w5.heap.size]? =some (.stringIter (lets l) i):=hws.has (List.mem_cons_self ..)
  by_cases hil:i<l.length
  ·obtain⟨g',rfl⟩:∃g',gk=g'+1:=⟨gk-1,by omega⟩
   obtain⟨c,hc⟩:∃c,l[i]? =some c:=⟨_,List.getElem?_eq_getElem hil⟩
   have hci:l[i]=c:=by rw[List.getElem?_eq_getElem hil]at hc;exact Option.some.inj hc
   have hcm:=List.mem_of_getElem? hc
   obtain⟨hps,hb,ha⟩:=Si Ua.out hc
   have hnx:∀ty,(Instr.next (.pointer (some ⟨w5.heap.size,0,none⟩)) true ty).run Tryz.prog wr=_:=fun ty=>Lib.run_next_ascii_at wr w5.heap.size (lets l) i ty hit hps ha
   rw[hb]at hnx
   have h05:=I4 (dS.out.has (List.mem_singleton.2 rfl))
   have hs2:=hws.iterAt (q:=i+1) (fun y hy=>by simp at hy;subst hy;dsimp only;dsimp only at h05;omega)
   have hk2:=Kept.iterAt HK.out (k:=w5.heap.size) (.inr cO.out.size) (lets l) (i+1)
   obtain⟨W,hWd⟩:∃W,wr.iterAt w5.heap.size (lets l) (i+1)=W:=⟨_,rfl⟩
   rw[hWd]at hnx hs2 hk2
   have hfl:=nR (fU x) (l.take i) 1100 (fun y hy=>Wn HX.out (qM.out y (List.mem_of_mem_take hy)))
   have hmin:(l.take i).length<=7:=by rw[List.length_take];have:=YJ.out;omega
   have hlen:(put k++(l.take i).flatMap (fU x)).length<=100000:=by rw[List.length_append];have:=HH.out.1;omega
   have hcall:=write_any (w0:=w) c (Ua.out c hcm) hs2 ⟨HX.out,hk2,jk.out,hlen⟩ (qM.out c hcm)
   have iF:=qP (fU x) l i hil
   rw[hci]at iF
   rw[List.append_assoc,<-iF]at hcall
   have Dp:=ah hcall;have HS2:=ah hs2;have nJ:=ah hk2
   clear hcall hs2 hk2 hWd hb ha hps hit hc hci hcm hfl hmin hlen iF hws h05
   go_wp2_with (refine wpList_load_row rfl 45 (.tmp 1) rfl w.heap.size rfl 45 _ (0,0) _ (HS2.out.has (x:=(w.heap.size,.cells (aI x).toArray 45)) (List.mem_cons_of_mem _ (List.mem_singleton.2 rfl))) Tryz.underlying45 rfl (by kernel_rfl) ?_)
   refine Dp.out.mono ?_
   rintro e w6 ⟨rfl,hs6,hb6⟩
   have oL:=ah hs6;have jY:=ah (behind nJ.out hb6 jk.out);clear hs6 hb6
   go_wp2
   go_roundg g'
   case measure=>omega
   case rel=>exact⟨i+1,by omega,oL.out,jY.out,by omega⟩
  ·obtain rfl:i=l.length:=by omega
   rw[List.take_length]at hws
   have hps:¬l.length<(lets l).size:=by rw[D4];omega
   have hnx:∀ty,(Instr.next (.pointer (some ⟨w5.heap.size,0,none⟩)) true ty).run Tryz.prog wr=_:=fun ty=>Lib.run_next_end_at wr w5.heap.size (lets l) l.length ty hit hps
   obtain⟨R,hR⟩:∃R,put k++l.flatMap (fU x)=R:=⟨_,rfl⟩
   rw[hR]at hws
   have hne:R≠[]:=by
    rw[<-hR]
    have:=HH.out.2
    simp;intro h;exact absurd h this
   have yG:=ah hws;have Dj:=ah hne;have HR:=ah hR;clear hit hps hne hws hR
   go_wp2_with fail
   refine(pF yG.out Dj.out).mono ?_
   rintro e w6 ⟨rfl,hb6⟩
   have jY:=ah (behind HK.out hb6 jk.out);clear hb6
   go_wp2
   go_ret2
   exact⟨by rw[HR.out];rfl,jY.out⟩
end gZ
end Go.Proofs.YtfjdpbbgfjhnlaaGreat
namespace Go.Proofs.YtfjdpbbgfjhnlaaGreat
open Go.RowKit
set_option maxRecDepth 100000
namespace dH
open aO Vn Mst lV IM mY
def fG(l:List aG):List ByteArray:=(l.filter fun x=>decide (aQ x=0)).map kT
theorem YK{l:List aG}{i:Nat}{x:aG}(h:l[i]? =some x):fG (l.take (i+1))=if aQ x=0 then fG (l.take i)++[kT x]else fG (l.take i):=by
 obtain⟨hi,he⟩:=List.getElem?_eq_some_iff.1 h
 unfold fG
 rw[List.take_succ_eq_append_getElem hi,he,List.filter_append,List.map_append]
 by_cases hp:aQ x=0
 ·rw[if_pos hp,List.filter_cons,if_pos (decide_eq_true hp)];rfl
 ·rw[if_neg hp,List.filter_cons,if_neg (by simpa using hp)];simp
theorem I5(l:List aG):(fG l).length<=l.length:=by
 unfold fG;rw[List.length_map];exact List.length_filter_le _ _
theorem aby:Elem Tryz.prog 94 9 1 16:=⟨Tryz.underlying94,⟨_,_,rfl,rfl,rfl,rfl,rfl⟩,by decide⟩
def YL(w:World)(l:List aG)(e:Ending)(w':World):Prop:=∃A c,e=.returned (.slice A (fG l).length c)/\aF 9 1 w.heap.size w' A (fG l).length c ((fG l).map Value.string)/\Kept aj w w'
attribute [local go_sem↓] uO
attribute [local go_sem] uP
theorem Le(w:World)(A0:Option Addr)(c0:Nat)(l:List aG)(hl:Src w 18 A0 l.length (wQ l))(hlen:l.length<=1000)(hx:∀x∈l,iI w x/\NU x):
  Calls Tryz.prog 69 #[.slice A0 l.length c0] w (YL w l):=by
 have HL:=ah hl;have HX:=ah hx;clear hl hx
 go_enter Tryz.func69,Tryz.ntmps69
 go_wp2_with fail
 go_loopw [3,10] (fun v3 v10 wr=>∃(i:Nat) (A:Option Addr) (c:Nat),i<=l.length/\v10=.int .i64 i/\v3=.slice A (fG (l.take i)).length c/\aF 9 1 w.heap.size wr A (fG (l.take i)).length c ((fG (l.take i)).map Value.string)/\Kept aj w wr) (fun _ v10 _=>l.length-(intOf v10).toNat)
 case atStart=>exact⟨0,none,0,Nat.zero_le _,rfl,rfl,aF.nil _ _ _ _,Kept.refl _ _⟩
 case round=>
  obtain⟨i,A,c,hi,rfl,rfl,hr,hk⟩:=hrel
  by_cases hil:i<l.length
  ·obtain⟨x,hx⟩:∃x,l[i]? =some x:=⟨_,List.getElem?_eq_getElem hil⟩
   obtain⟨hok,hu⟩:=HX.out x (List.mem_of_getElem? hx)
   have hput:=fun W (hW:Kept aj wr W)=>NV ((hok.kept hk).kept hW) hu
   obtain⟨ad,rfl,had,hc⟩:=Uu (HL.out.kept hk (fun _ _ z=>z)) (by omega) i x hx
   obtain⟨u1,u2⟩:=LC rfl hc
   have hs:=YK hx
   have hb1:=I5 (l.take i)
   have hb2:(l.take i).length<=1000:=by rw[List.length_take];omega
   obtain⟨T,hT⟩:∃T,fG (l.take i)=T:=⟨_,rfl⟩
   obtain⟨z,hz⟩:∃z,aQ x=z:=⟨_,rfl⟩
   obtain⟨s,hs2⟩:∃s,kT x=s:=⟨_,rfl⟩
   rw[hT]at hs hr hb1⊢
   rw[hz]at hs hput
   rw[hs2]at hs hput
   have UX:∀W,Kept aj wr W->Calls Tryz.prog 62 #[.agg (aJ x).toArray] W fun e w'=>e=.returned (.tuple #[.string s,.int .i64 z])/\Kept aj W w':=hput
   have HS:=ah hs;have HR:=ah hr;have HK:=ah hk
   have gq:Hid (T.length+1<=maxLen):=ah (by unfold maxLen;omega)
   have iO:Hid ((T.length+1)*16<=140737488355328):=ah (by omega)
   clear hs hr hk hz hs2 hT hput hok hu hx hc hb1 hb2
   obtain⟨k,n,at2,ep,wL,wM,ms,fl,lA2,wO,lg,oA,oc,⟨iY,fM,ops⟩,ts,⟨p1,p2,p3⟩,⟨s1,s2,s3,s4⟩⟩:=x
   simp only[aJ]at UX u2
   have HP:=ah UX;clear UX
   by_cases h0:z=0
   ·subst h0
    have hs1:=HS.out
    rw[if_pos rfl]at hs1
    have EJ:=ah hs1;clear hs1 HS
    go_wp2_with (refine wpList_load_row rfl 83 (.tmp 5) rfl wr.heap.size rfl 83 _ (0,0) _ (Has.new _ _ _) Tryz.underlying83 rfl (by kernel_rfl) ?_)
    refine(HP.out _ (by(repeat'(first|(with_reducible first|exact ak|apply au|apply ay|apply aA|apply aB)|(right;simp;done))))).mono ?_
    rintro e w4 ⟨rfl,hk4⟩
    have dW:=ah (Kept.then (F:=aj) (a:=wr) (by(repeat'(first|(with_reducible first|exact ak|apply au|apply ay|apply aA|apply aB)|(right;simp;done)))) hk4);clear hk4 u1 u2
    go_wp2_with (at_builtin;refine aN aby (.tmp 21) (.tmp 23) rfl rfl (Value.slice A T.length c) rfl (aC (aC HR.out.1 dW.out (fun _ _ x=>x)) (F:=aj) (by(repeat'(first|(with_reducible first|exact ak|apply au|apply ay|apply aA|apply aB)|(right;simp;done)))) (fun _ _ x=>x)) 1 rfl (Src.dn (t:=9) (size:=1) (m:=1) (cs:=#[.string s]) (by(repeat (with_reducible first|exact Has.bT _ _ _ (by simp)|apply Has.drew|apply Has.drewN|apply Has.alloc|(apply Has.past<;>(try omega))))) rfl) (by simp[Value.oneCell']) gq.out iO.out ?_;intro A1 c1 w9 ho1 hg1 ha1;have hpush:=aF.pushed HR.out (by(repeat'(first|(with_reducible first|exact ak|apply au|apply ay|apply aA|apply aB)|(exact HK.out.then dW.out)|(right;simp;done)))) ho1 hg1 ha1;have HPU:=ah hpush;clear ho1 hg1 ha1 hpush)
    go_roundw
    case rel=>exact⟨i+1,A1,c1,by omega,by go_num,by rw[EJ.out,List.length_append];rfl,by rw[EJ.out,List.length_append,List.map_append];exact HPU.out.1,HPU.out.2⟩
    case measure=>simp[intOf];omega
   ·have hs1:=HS.out
    rw[if_neg h0]at hs1
    have EJ:=ah hs1;clear hs1 HS
    have h2:(z==0)=false:=by simpa using h0
    clear h0
    go_wp2_with (refine wpList_load_row rfl 83 (.tmp 5) rfl wr.heap.size rfl 83 _ (0,0) _ (Has.new _ _ _) Tryz.underlying83 rfl (by kernel_rfl) ?_)
    refine(HP.out _ (by(repeat'(first|(with_reducible first|exact ak|apply au|apply ay|apply aA|apply aB)|(right;simp;done))))).mono ?_
    rintro e w4 ⟨rfl,hk4⟩
    have dW:=ah (HK.out.then (Kept.then (F:=aj) (a:=wr) (by(repeat'(first|(with_reducible first|exact ak|apply au|apply ay|apply aA|apply aB)|(right;simp;done)))) hk4));have qH:=ah (Kept.then (F:=aj) (a:=wr) (by(repeat'(first|(with_reducible first|exact ak|apply au|apply ay|apply aA|apply aB)|(right;simp;done)))) hk4);clear hk4 u1 u2
    go_wp2
    go_roundw
    case rel=>exact⟨i+1,A,c,by omega,by go_num,by rw[EJ.out],by rw[EJ.out];exact HR.out.kept qH.out,dW.out⟩
    case measure=>simp[intOf];omega
  ·obtain rfl:i=l.length:=by omega
   rw[List.take_length]at hr⊢
   have HR:=ah hr;have HK:=ah hk;clear hr hk
   go_wp2
   go_ret
   exact⟨A,c,rfl,HR.out,HK.out⟩
theorem adH:Elem Tryz.prog 66 240 2 24:=⟨Tryz.underlying66,⟨_,_,rfl,rfl,rfl,rfl,rfl⟩,by decide⟩
theorem Rn(l:List Ah)(o:Ah):uM (l++[o])=uM l++[.int .i64 o.to,.string o.body]:=by
 unfold uM
 rw[List.flatMap_append]
 rfl
open gZ in
def iU(M:MR)(to:Int)(x:bF):MR:=if o9 x=0 then {M with out:=M.out++[⟨to,DY x⟩]}else M
def dF(w:World)(X:MX)(M:MR)(c:Nat)(v:Value)(M':MR)(d:Nat)(e:Ending)(w':World):Prop:=e=.returned v/\∃X',Step w X M w' X' M'/\dw X' M'.lg (c+d)
section
variable{w w':World}{X X0:MX}{M M0:MR}{c:Nat}
open gZ in
theorem Pg(h:dD w X M)(hb:dw X M.lg c)(ho:M.out.length<=1000)(to:Int)(x:bF)(hx:iZ w x):
  Calls Tryz.prog 100 #[.pointer (some ⟨X.mb,0,none⟩),.int .i64 to,gK x] w (dF w X M c (.tuple #[]) (iU M to x) 0):=by
 obtain⟨W0,hW0⟩:∃W0,w.alloc (.cells (aI x).toArray 45)=W0:=⟨_,rfl⟩
 have hk0:Kept aj w W0:=by rw[<-hW0];(repeat'(first|(with_reducible first|exact ak|apply au|apply ay|apply aA|apply aB)|(right;simp;done)))
 have hn0:Has W0 w.heap.size 45 (aI x).toArray:=by rw[<-hW0];exact Has.new _ _ _
 have hput:=abw W0 x (hx.kept hk0)
 have hbad:o9 x≠0->∀W,Kept aj w W->dF w X M c (.tuple #[]) (iU M to x) 0 (.returned (.tuple #[])) W:=fun h0 W hW=>by
  have e1:iU M to x=M:=if_neg h0
  rw[e1]
  exact⟨rfl,X,Step.refl h hW,hb⟩
 have hS:o9 x=0->iU M to x={M with out:=M.out++[⟨to,DY x⟩]}:=fun h0=>if_pos h0
 obtain⟨z,hz⟩:∃z,o9 x=z:=⟨_,rfl⟩
 obtain⟨s,hs⟩:∃s,DY x=s:=⟨_,rfl⟩
 rw[hz]at hput hbad hS
 rw[hs]at hput hS
 have HP:=ah hput;have HN:=ah hn0;have bf:=ah hk0;have HBAD:=ah hbad;have HS:=ah hS;have H:=ah h;have HB:=ah hb
 clear hput hn0 hk0 hbad hS h hb hx hz hs
 by_cases h0:z=0
 rotate_left
 ·have h2:(z==0)=false:=by simpa using h0
  have HBD:=ah (HBAD.out h0);clear h0 HBAD
  go_enter Tryz.func100,Tryz.ntmps100
  go_wp2_with (refine wpList_load_row rfl 45 (.tmp 5) rfl w.heap.size rfl 45 _ (0,0) _ HN.out Tryz.underlying45 rfl (by kernel_rfl) ?_)
  clear hW0
  refine HP.out.mono ?_
  rintro e w2 ⟨rfl,hk⟩
  have HF:=ah (HBD.out _ (bf.out.then hk));clear hk
  go_wp2
  go_end0
  exact HF.out
 ·subst h0
  rw[HS.out rfl]
  have gq:Hid (M.out.length+1<=maxLen):=ah (by unfold maxLen;omega)
  have iO:Hid ((M.out.length+1)*24<=140737488355328):=ah (by omega)
  clear HBAD HS
  go_enter Tryz.func100,Tryz.ntmps100
  go_wp2_with (refine wpList_load_row rfl 45 (.tmp 5) rfl w.heap.size rfl 45 _ (0,0) _ HN.out Tryz.underlying45 rfl (by kernel_rfl) ?_)
  clear hW0
  refine HP.out.mono ?_
  rintro e w2 ⟨rfl,hk⟩
  have hm2:=H.out.quiet (bf.out.then hk)
  have nJ:=ah (bf.out.then hk);clear hk
  have q:w2.cell? ⟨X.mb,11,none⟩=some (.slice X.oA M.out.length X.oc):=Has.cell (hm2.c 0) 11
  have hrow:w2.ownsRow 0 240 2 (.slice X.oA M.out.length X.oc) M.out.length (uM M.out):=hm2.c 10
  have bV:=ah hrow;have HM:=ah hm2;clear hrow hm2
  have hmb:X.mb<w2.heap.size:=(HM.out.c 0).lt rfl
  go_wp2_with (at_builtin;refine aN adH (.tmp 19) (.tmp 23) rfl rfl (Value.slice X.oA M.out.length X.oc) rfl (aC bV.out (F:=aj) (by(repeat'(first|(with_reducible first|exact ak|apply au|apply ay|apply aA|apply aB)|(right;simp;done)))) (fun _ _ x=>x)) 1 rfl (Src.dn (t:=240) (size:=2) (m:=1) (cs:=#[.int .i64 to,.string s]) (by(repeat (with_reducible first|exact Has.bT _ _ _ (by simp)|apply Has.drew|apply Has.drewN|apply Has.alloc|(apply Has.past<;>(try omega))))) rfl) (by simp[Value.oneCell']) gq.out iO.out ?_;intro A1 c1 w9 ho1 hg1 ha1;have hk9:Kept (fun k=>(Value.slice X.oA M.out.length X.oc).ownBlock=some k) w2 w9:=Kept.grownBy (by(repeat'(first|(with_reducible first|exact ak|apply au|apply ay|apply aA|apply aB)|(right;simp;done)))) hg1 (fun k hk=> .inl hk);have hf9:Has w9 X.mb 90 (vO X M):=Has.kept (HM.out.c 0) hk9 (fun e=>absurd (HM.out.ap 0 10 _ rfl e) (by decide));have f9:=hf9.frozen 11;have d9:=hf9.cell 11;have HO:=ah ho1;have HA:=ah ha1;have nK:=ah hk9;clear ho1 hg1 ha1 hk9 hf9)
  go_end0
  have hlen:(M.out++[(⟨to,s⟩:Ah)]).length=M.out.length+1:=by simp
  have hstep:=Step.ae3 (ws:=w) (X0:=X) (M0:=M) (w:=w2) (Step.refl H.out nJ.out) (w9:=w9) (A:=A1) (c:=c1) (l:=M.out++[⟨to,s⟩]) (by rw[hlen,Rn];exact HO.out) nK.out (fun k hk=>by
   rw[hlen]at hk
   rcases HA.out with e|e
   ·exact .inl (e.symm.trans hk)
   ·have h9:=e.symm.trans hk
    injection h9 with h9
    simp at h9
    exact .inr (by omega))
  rw[hlen]at hstep
  exact⟨rfl,_,hstep,⟨HB.out.n,HB.out.f,HB.out.l,HB.out.hd⟩⟩
end
end dH
end Go.Proofs.YtfjdpbbgfjhnlaaGreat

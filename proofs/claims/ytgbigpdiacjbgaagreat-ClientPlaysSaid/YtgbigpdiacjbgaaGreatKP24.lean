/- Part 25. -/
import Derived.Test.YtgbigpdiacjbgaaGreatKP23
set_option linter.unusedSimpArgs false
set_option linter.unusedVariables false
set_option maxHeartbeats 32000000
set_option maxRecDepth 100000
namespace Go.Proofs.YtgbigpdiacjbgaaGreat
open Go.RowKit Go.Shelf
namespace eP
open bg Ops fG Vn JL
theorem SG{w:World}{A:Option Addr}{m:Nat}{l:List Int}(h:Src w 1 A m (rH l))(hm:0<m)(i:Nat)(x:Int)(hx:l[i]? =some x):
  ∃ad,A=some ad/\ad.block<w.heap.size/\w.cell? (ad.add i)=some (.int .u64 x):=by
 obtain⟨ad,rfl,had,hcell⟩:=h.2 hm;exact⟨ad,rfl,had,hcell i _ (by unfold rH;rw[List.getElem?_map,hx];rfl)⟩
section
variable{N:Nat}{w w0:World}{g:Nat}{bs:List UInt8}{keep:List KB}{x:aO}
theorem Nl(c:Nat)(hl:c∈letters)(hn:c≠69/\c≠83/\c≠82)(h:WS N w g bs keep)(hr:Room N w0 w bs x)(hw:aT x c=0):Calls Tryz.prog 89 #[.pointer (some ⟨g,0,none⟩),aK x,.int .i32 c] w (dY N w g (bs++bT x c) keep):=by
 obtain⟨W0,hW0⟩:∃W0,w.alloc (.cells (au x).toArray 63)=W0:=⟨_,rfl⟩;have hs0:WS N W0 g bs ((w.heap.size,.cells (au x).toArray 63)::keep):=by rw[<-hW0];exact h.add _
 have hb0:Below N w W0:=by rw[<-hW0];exact kC h _
 have hk0:Kept aj w W0:=by rw[<-hW0];(repeat'(first|(with_reducible first|exact ay|apply aA|apply aB|apply aC|apply aF)|(right;simp;done)))
 have hn0:Has W0 w.heap.size 63 (au x).toArray:=hs0.has (List.mem_cons_self ..);have hcall:=SE c hl hn hs0 (w0:=w0) ⟨hr.x,hr.k.then hk0,hr.n,hr.len⟩ hw;have HC:=ah hcall;have HB:=ah hb0;have dZ:=ah hn0;have g1:((c:Int)==69)=false:=by simpa using(by omega:(c:Int)≠69)
 have g2:((c:Int)==83)=false:=by simpa using(by omega:(c:Int)≠83)
 have g3:((c:Int)==82)=false:=by simpa using(by omega:(c:Int)≠82)
 clear hn hl hw h hr hs0 hk0 hn0 hb0 hcall;obtain⟨ci,hci⟩:∃ci:Int,(c:Int)=ci:=⟨_,rfl⟩;rw[hci]at g1 g2 g3 HC⊢;clear hci;go_enter Tryz.func89,Tryz.ntmps89;go_wp2_with (refine wpList_load_row rfl 63 (.tmp 4) rfl w.heap.size rfl 63 _ (0,0) _ dZ.out Tryz.underlying63 rfl (by kernel_rfl) ?_);clear hW0;refine HC.out.mono ?_;rintro e w3 ⟨rfl,hs3,hb3⟩;have qJ:=ah hs3.tail;have HB3:=ah (HB.out.trans hb3);clear hs3 hb3;go_wp2;go_end0;exact⟨rfl,qJ.out,HB3.out⟩
theorem Vu(h:WS N w g bs keep)(hr:Room N w0 w bs x)(hw:aT x 69=0):Calls Tryz.prog 89 #[.pointer (some ⟨g,0,none⟩),aK x,.int .i32 ((69:Nat):Int)] w (dY N w g (bs++bT x 69) keep):=by
 have hE:bT x 69=put x.es.length++x.es.flatMap fun y:iM=>dA (su y):=rfl;rw[hE];obtain⟨W0,hW0⟩:∃W0,w.alloc (.cells (au x).toArray 63)=W0:=⟨_,rfl⟩;have hs0:WS N W0 g bs ((w.heap.size,.cells (au x).toArray 63)::keep):=by rw[<-hW0];exact h.add _
 have hb0:Below N w W0:=by rw[<-hW0];exact kC h _
 have hsl:∀W b,WS N W g b ((w.heap.size,.cells (au x).toArray 63)::keep)->W.cell? ⟨w.heap.size,19,none⟩=some (.slice x.eA x.es.length x.ec):=fun W b hW=>Has.cell (t:=63) (hW.has (List.mem_cons_self ..)) 19;have hn:x.es.length<=4:=by
  by_cases hr:4<x.es.length
  ·have hw2:(if 4<x.es.length then (6:Int)else bK (fun y=>Ops.chk (lZ y)) x.es)=0:=hw;rw[if_pos hr]at hw2;cases hw2
  ·omega
 have hlen:=hr.len;have HR:=ah hr;have HN:=ah hn;have eH:=ah hlen;have AQ:=ah hsl;have HW:=ah hw;clear hn hlen hr h hE hsl hw;obtain⟨l,hl⟩:∃l,x.es=l:=⟨_,rfl⟩;rw[hl]at HN AQ⊢;obtain⟨A,hA⟩:∃A,x.eA=A:=⟨_,rfl⟩;rw[hA]at AQ;have q:=AQ.out _ _ hs0;have HL:=ah hl;have HA:=ah hA;have qP:=ah hs0;have HB0:=ah hb0;clear hs0 hb0 hl hA;go_enter Tryz.func89,Tryz.ntmps89;go_wp2_with fail;clear hW0;refine(sN qP.out l.length (by have:=HN.out;omega) (by have:=eH.out;omega)).mono ?_;rintro e w3 ⟨rfl,hs3,hb3⟩;have q3:=AQ.out _ _ hs3;have qJ:=ah hs3;have HB3:=ah (HB0.out.trans hb3);clear hs3 hb3;go_wp2;have heo:∀y∈l,0<=y.ts/\y.ts<=aY:=fun y hy=>(HR.out.x.eo y (by rw[HL.out];exact hy)).2;have Ld:=ah heo;clear heo;go_loopw [29] (fun v wr=>∃i:Nat,i<=l.length/\v=.int .i64 i/\WS N wr g (bs++put l.length++(l.take i).flatMap (fun y:iM=>dA (su y))) ((w.heap.size,.cells (au x).toArray 63)::keep)/\Below N w wr) (fun v _=>l.length-(intOf v).toNat)
 case atStart=>exact⟨0,Nat.zero_le _,rfl,by simpa using qJ.out,HB3.out⟩
 case round=>
  obtain⟨i,hi,rfl,hws,hbw⟩:=hrel;have zi:=ah hbw;clear hbw;have hkw:=behind HR.out.k zi.out HR.out.n;have mW:=ah hkw;clear hkw;have hnl:=HN.out;by_cases hil:i<l.length
  ·obtain⟨y,hy⟩:∃y,l[i]? =some y:=⟨_,lB0 hil⟩;have hyi:l[i]=y:=by rw[lB0 hil]at hy;exact Option.some.inj hy
   have hym:=lC0 hy;have jf:=qW (fun y:iM=>dA (su y)) l i hil;rw[hyi]at jf
   have hfl:=oW (fun y:iM=>dA (su y)) (l.take (i+1)) 130 (fun y hy2=>by have hy:=List.mem_of_mem_take hy2;have:=lF (s:=su y) (m:=121) (Fq (Ld.out y hy)) (by omega);omega)
   rw[jf,lA0]at hfl;have hmin:(l.take (i+1)).length<=4:=by rw[List.length_take];have:=HN.out;omega
   have hp:=dJ (n:=l.length) (by have:=HN.out;omega);have ru:(bs++put l.length++(l.take i).flatMap (fun y:iM=>dA (su y))).length<=110000:=by rw[lA0,lA0];have:=eH.out;omega
   obtain⟨cur,hcur⟩:∃cur,bs++put l.length++(l.take i).flatMap (fun y:iM=>dA (su y))=cur:=⟨_,rfl⟩;rw[hcur]at hws ru;have hnext:bs++put l.length++(l.take (i+1)).flatMap (fun y:iM=>dA (su y))=cur++dA (su y):=by rw[jf,<-List.append_assoc,hcur]
   have hx:=HR.out.x.kept mW.out;have hsrc:=hx.e;rw[HL.out,HA.out]at hsrc;obtain⟨ad,rfl,had,e0,e1,e2,e3⟩:=Dx hsrc (by omega) i y hy;have hyo:=hx.eo y (by rw[HL.out];exact hym);have hsz:=Fq hyo.2;have hcall:=Vq (wr.alloc (.cells #[.int .i64 y.cl,.int .i64 y.req,.slice y.A y.ops.length y.c,.int .u64 y.ts] 183)) y (hyo.1.kept ((Kept.refl aj wr).alloc _) (fun _ _ z=>z)) hyo.2;obtain⟨s,hs⟩:∃s,su y=s:=⟨_,rfl⟩;obtain⟨z,hz⟩:∃z,Ops.chk (lZ y)=z:=⟨_,rfl⟩;rw[hs,hz]at hcall;rw[hs]at hnext hsz;have jT:=ah hnext;have um:=ah ru;have HC:=ah hcall;have sH:=ah hsz;have AU:=ah hws;clear hnext jf hfl hcur hmin hy hyi hym hp ru hx hsrc hyo hsz hcall hs hz hws;go_wp2_with fail;refine HC.out.mono ?_;rintro e w4 ⟨rfl,hk4⟩;have hs4:=WS.kept (G:=aj) (WS.alloc AU.out _) hk4;have hb4:Below N w w4:=(zi.out.trans (kC AU.out _)).trans (hk4.below (WS.alloc AU.out _).1 (fun _ z=>z.elim));have D9:=ah hs4;have HB4:=ah hb4;clear hs4 hb4 hk4;go_wp2_with fail;refine(uk D9.out s (by have:=sH.out;have:=um.out;omega)).mono ?_;rintro e w5 ⟨rfl,hs5,hb5⟩;rw[<-jT.out]at hs5;have uX:=ah hs5;have tX:=ah (HB4.out.trans hb5);clear hs5 hb5;go_wp2;go_roundw
   case rel=>exact⟨i+1,by omega,by go_num,uX.out,tX.out⟩
   case measure=>simp[intOf];omega
  ·obtain rfl:i=l.length:=by omega
   rw[List.take_length,List.append_assoc]at hws;have AU:=ah hws.tail;clear hws;go_wp2;go_end0;exact⟨rfl,AU.out,zi.out⟩
theorem Vw(h:WS N w g bs keep)(hr:Room N w0 w bs x)(hw:aT x 83=0):Calls Tryz.prog 89 #[.pointer (some ⟨g,0,none⟩),aK x,.int .i32 ((83:Nat):Int)] w (dY N w g (bs++bT x 83) keep):=by
 have hE:bT x 83=put x.ss.length++x.ss.flatMap fun y:Int=>put y.toNat:=rfl;rw[hE];obtain⟨W0,hW0⟩:∃W0,w.alloc (.cells (au x).toArray 63)=W0:=⟨_,rfl⟩;have hs0:WS N W0 g bs ((w.heap.size,.cells (au x).toArray 63)::keep):=by rw[<-hW0];exact h.add _
 have hb0:Below N w W0:=by rw[<-hW0];exact kC h _
 have hsl:∀W b,WS N W g b ((w.heap.size,.cells (au x).toArray 63)::keep)->W.cell? ⟨w.heap.size,20,none⟩=some (.slice x.sA x.ss.length x.sc):=fun W b hW=>Has.cell (t:=63) (hW.has (List.mem_cons_self ..)) 20;have hn:x.ss.length<=8:=by
  by_cases hr:8<x.ss.length
  ·have hw2:(if 8<x.ss.length then (6:Int)else 0)=0:=hw;rw[if_pos hr]at hw2;cases hw2
  ·omega
 have hlen:=hr.len;have HR:=ah hr;have HN:=ah hn;have eH:=ah hlen;have AQ:=ah hsl;have HW:=ah hw;clear hn hlen hr h hE hsl hw;obtain⟨l,hl⟩:∃l,x.ss=l:=⟨_,rfl⟩;rw[hl]at HN AQ⊢;obtain⟨A,hA⟩:∃A,x.sA=A:=⟨_,rfl⟩;rw[hA]at AQ;have q:=AQ.out _ _ hs0;have HL:=ah hl;have HA:=ah hA;have qP:=ah hs0;have HB0:=ah hb0;clear hs0 hb0 hl hA;go_enter Tryz.func89,Tryz.ntmps89;go_wp2_with fail;clear hW0;refine(sN qP.out l.length (by have:=HN.out;omega) (by have:=eH.out;omega)).mono ?_;rintro e w3 ⟨rfl,hs3,hb3⟩;have q3:=AQ.out _ _ hs3;have qJ:=ah hs3;have HB3:=ah (HB0.out.trans hb3);clear hs3 hb3;go_wp2;have heo:∀y∈l,0<=y/\y<=18446744073709551615:=fun y hy=>HR.out.x.so y (by rw[HL.out];exact hy);have Ld:=ah heo;clear heo;go_loopw [52] (fun v wr=>∃i:Nat,i<=l.length/\v=.int .i64 i/\WS N wr g (bs++put l.length++(l.take i).flatMap (fun y:Int=>put y.toNat)) ((w.heap.size,.cells (au x).toArray 63)::keep)/\Below N w wr) (fun v _=>l.length-(intOf v).toNat)
 case atStart=>exact⟨0,Nat.zero_le _,rfl,by simpa using qJ.out,HB3.out⟩
 case round=>
  obtain⟨i,hi,rfl,hws,hbw⟩:=hrel;have zi:=ah hbw;clear hbw;have hkw:=behind HR.out.k zi.out HR.out.n;have mW:=ah hkw;clear hkw;have hnl:=HN.out;by_cases hil:i<l.length
  ·obtain⟨y,hy⟩:∃y,l[i]? =some y:=⟨_,lB0 hil⟩;have hyi:l[i]=y:=by rw[lB0 hil]at hy;exact Option.some.inj hy
   have hym:=lC0 hy;have jf:=qW (fun y:Int=>put y.toNat) l i hil;rw[hyi]at jf
   have hfl:=oW (fun y:Int=>put y.toNat) (l.take (i+1)) 9 (fun y hy2=>by have hy:=List.mem_of_mem_take hy2;have b:=Ld.out y hy;exact dJ (by omega))
   rw[jf,lA0]at hfl;have hmin:(l.take (i+1)).length<=8:=by rw[List.length_take];have:=HN.out;omega
   have hp:=dJ (n:=l.length) (by have:=HN.out;omega);have ru:(bs++put l.length++(l.take i).flatMap (fun y:Int=>put y.toNat)).length<=110000:=by rw[lA0,lA0];have:=eH.out;omega
   obtain⟨cur,hcur⟩:∃cur,bs++put l.length++(l.take i).flatMap (fun y:Int=>put y.toNat)=cur:=⟨_,rfl⟩;rw[hcur]at hws ru;have hnext:bs++put l.length++(l.take (i+1)).flatMap (fun y:Int=>put y.toNat)=cur++put y.toNat:=by rw[jf,<-List.append_assoc,hcur]
   have hsrc:=(HR.out.x.kept mW.out).s;rw[HL.out,HA.out]at hsrc;obtain⟨ad,rfl,had,e0⟩:=SG hsrc (by omega) i y hy;have hyo:=Ld.out y hym;obtain⟨n,rfl⟩:∃n:Nat,y=n:=⟨y.toNat,by omega⟩;rw[Int.toNat_natCast]at hnext;have jT:=ah hnext;have um:=ah ru;have WX:=ah hyo;have AU:=ah hws;clear hnext jf hfl hcur hmin hy hyi hym hp ru hsrc hyo hws;go_wp2_with fail;refine(EN AU.out n (by have:=WX.out;omega) (by have:=um.out;omega)).mono ?_;rintro e w5 ⟨rfl,hs5,hb5⟩;rw[<-jT.out]at hs5;have uX:=ah hs5;have tX:=ah (zi.out.trans hb5);clear hs5 hb5;go_wp2;go_roundw
   case rel=>exact⟨i+1,by omega,by go_num,uX.out,tX.out⟩
   case measure=>simp[intOf];omega
  ·obtain rfl:i=l.length:=by omega
   rw[List.take_length,List.append_assoc]at hws;have AU:=ah hws.tail;clear hws;go_wp2;go_end0;exact⟨rfl,AU.out,zi.out⟩
theorem Vx(h:WS N w g bs keep)(hr:Room N w0 w bs x)(hw:aT x 82=0):Calls Tryz.prog 89 #[.pointer (some ⟨g,0,none⟩),aK x,.int .i32 ((82:Nat):Int)] w (dY N w g (bs++bT x 82) keep):=by
 have hE:bT x 82=put x.ps.length++x.ps.flatMap fun y:iC=>dA y.key++dA y.val:=rfl;rw[hE];obtain⟨W0,hW0⟩:∃W0,w.alloc (.cells (au x).toArray 63)=W0:=⟨_,rfl⟩;have hs0:WS N W0 g bs ((w.heap.size,.cells (au x).toArray 63)::keep):=by rw[<-hW0];exact h.add _
 have hb0:Below N w W0:=by rw[<-hW0];exact kC h _
 have hsl:∀W b,WS N W g b ((w.heap.size,.cells (au x).toArray 63)::keep)->W.cell? ⟨w.heap.size,21,none⟩=some (.slice x.pA x.ps.length x.pc):=fun W b hW=>Has.cell (t:=63) (hW.has (List.mem_cons_self ..)) 21;have hn:x.ps.length<=32:=by
  by_cases hr:32<x.ps.length
  ·have hw2:(if 32<x.ps.length then (6:Int)else bK mY x.ps)=0:=hw;rw[if_pos hr]at hw2;cases hw2
  ·omega
 have hlen:=hr.len;have HR:=ah hr;have HN:=ah hn;have eH:=ah hlen;have AQ:=ah hsl;have HW:=ah hw;clear hn hlen hr h hE hsl hw;obtain⟨l,hl⟩:∃l,x.ps=l:=⟨_,rfl⟩;rw[hl]at HN AQ⊢;obtain⟨A,hA⟩:∃A,x.pA=A:=⟨_,rfl⟩;rw[hA]at AQ;have q:=AQ.out _ _ hs0;have HL:=ah hl;have HA:=ah hA;have qP:=ah hs0;have HB0:=ah hb0;clear hs0 hb0 hl hA;go_enter Tryz.func89,Tryz.ntmps89;go_wp2_with fail;clear hW0;refine(sN qP.out l.length (by have:=HN.out;omega) (by have:=eH.out;omega)).mono ?_;rintro e w3 ⟨rfl,hs3,hb3⟩;have q3:=AQ.out _ _ hs3;have qJ:=ah hs3;have HB3:=ah (HB0.out.trans hb3);clear hs3 hb3;go_wp2;have heo:∀y∈l,y.key.size<=8/\y.val.size<=8:=by
  have hw2:(if 32<x.ps.length then (6:Int)else bK mY x.ps)=0:=HW.out;rw[if_neg (by rw[HL.out];have:=HN.out;omega),HL.out]at hw2;intro y hy;have hy0:=zN hw2 y hy;unfold mY keyE at hy0;by_cases e1:y.key.size<1\/8<y.key.size
  ·rw[if_pos e1,if_pos (by decide)]at hy0;cases hy0
  ·rw[if_neg e1,if_neg (by decide)]at hy0;refine⟨by omega,?_⟩;by_cases e2:8<y.val.size
   ·rw[if_pos e2]at hy0;cases hy0
   ·omega
 have Ld:=ah heo;clear heo;go_loopw [70] (fun v wr=>∃i:Nat,i<=l.length/\v=.int .i64 i/\WS N wr g (bs++put l.length++(l.take i).flatMap (fun y:iC=>dA y.key++dA y.val)) ((w.heap.size,.cells (au x).toArray 63)::keep)/\Below N w wr) (fun v _=>l.length-(intOf v).toNat)
 case atStart=>exact⟨0,Nat.zero_le _,rfl,by simpa using qJ.out,HB3.out⟩
 case round=>
  obtain⟨i,hi,rfl,hws,hbw⟩:=hrel;have zi:=ah hbw;clear hbw;have hkw:=behind HR.out.k zi.out HR.out.n;have mW:=ah hkw;clear hkw;have hnl:=HN.out;by_cases hil:i<l.length
  ·obtain⟨y,hy⟩:∃y,l[i]? =some y:=⟨_,lB0 hil⟩;have hyi:l[i]=y:=by rw[lB0 hil]at hy;exact Option.some.inj hy
   have hym:=lC0 hy;have jf:=qW (fun y:iC=>dA y.key++dA y.val) l i hil;rw[hyi]at jf
   have hfl:=oW (fun y:iC=>dA y.key++dA y.val) (l.take (i+1)) 34 (fun y hy2=>by have hy:=List.mem_of_mem_take hy2;have b:=Ld.out y hy;have b1:=lF (s:=y.key) (m:=8) (by omega) (by omega);have b2:=lF (s:=y.val) (m:=8) (by omega) (by omega);rw[lA0];omega)
   rw[jf,lA0]at hfl;have hmin:(l.take (i+1)).length<=32:=by rw[List.length_take];have:=HN.out;omega
   have hp:=dJ (n:=l.length) (by have:=HN.out;omega);have ru:(bs++put l.length++(l.take i).flatMap (fun y:iC=>dA y.key++dA y.val)).length<=110000:=by rw[lA0,lA0];have:=eH.out;omega
   obtain⟨cur,hcur⟩:∃cur,bs++put l.length++(l.take i).flatMap (fun y:iC=>dA y.key++dA y.val)=cur:=⟨_,rfl⟩;rw[hcur]at hws ru;have hnext:bs++put l.length++(l.take (i+1)).flatMap (fun y:iC=>dA y.key++dA y.val)=(cur++dA y.key)++dA y.val:=by rw[jf,<-List.append_assoc,hcur];simp only[List.append_assoc]
   have hsrc:=(HR.out.x.kept mW.out).p;rw[HL.out,HA.out]at hsrc;obtain⟨ad,rfl,had,e0,e1⟩:=pair_cells hsrc (by omega) i y hy;have hyo:=Ld.out y hym;have b1:=lF (s:=y.key) (m:=8) (by omega) (by omega);have hw0:=hws.add (.cells #[.string y.key,.string y.val] 84)
   have hos:∀W b,WS N W g b ((wr.heap.size,.cells #[.string y.key,.string y.val] 84)::(w.heap.size,.cells (au x).toArray 63)::keep)->(W.cell? ⟨wr.heap.size,0,none⟩=some (.string y.key)/\W.cell? ⟨wr.heap.size,1,none⟩=some (.string y.val)):=
    fun W b hW=>⟨Has.cell (t:=84) (hW.has (List.mem_cons_self ..)) 0,Has.cell (t:=84) (hW.has (List.mem_cons_self ..)) 1⟩
   have hbx:=zi.out.trans (kC hws (.cells #[.string y.key,.string y.val] 84));have jT:=ah hnext;have um:=ah ru;have WX:=ah (And.intro hyo b1);have HW0:=ah hw0;have zV:=ah hos;have SH:=ah hbx;clear hnext jf hfl hcur hmin hy hyi hym hp ru hsrc hyo hws hw0 hos b1 hbx;have r0:=zV.out _ _ HW0.out;go_wp2_with fail
   go_region_held3 (fun W=>W.cell? ⟨wr.heap.size,0,none⟩=some (.string y.key)/\W.cell? ⟨wr.heap.size,1,none⟩=some (.string y.val)) (first|with_reducible exact r2|with_reducible exact r1|with_reducible exact r0|(simp[go_sem,r0];done))
    (first
     |(have hx:=Jk;clear hx;go_at_call 131;refine(uk (by exact Jk.out) y.val (by have:=um.out;have:=WX.out;simp;omega)).mono ?_;rintro e w4 ⟨rfl,hv2,hd2⟩;have r2:=zV.out _ _ hv2;have NR:=ah hv2;have HD2:=ah hd2;clear hv2 hd2)
     |(go_at_call 131;refine(uk (by exact HW0.out) y.key (by have:=um.out;have:=WX.out;omega)).mono ?_;rintro e w3 ⟨rfl,hv1,hd1⟩;have r1:=zV.out _ _ hv1;have Jk:=ah hv1;have HD1:=ah hd1;clear hv1 hd1))
   have hb4:Below N w w4:=(SH.out.drew.trans HD1.out).trans HD2.out;have hv:=NR.out.tail;rw[<-jT.out]at hv;have HV:=ah hv;have HB4:=ah hb4;clear hv hb4;go_wp2;go_roundw
   case rel=>exact⟨i+1,by omega,by go_num,HV.out,HB4.out⟩
   case measure=>simp[intOf];omega
  ·obtain rfl:i=l.length:=by omega
   rw[List.take_length,List.append_assoc]at hws;have AU:=ah hws.tail;clear hws;go_wp2;go_end0;exact⟨rfl,AU.out,zi.out⟩
theorem write_any(c:Nat)(hl:c∈letters)(h:WS N w g bs keep)(hr:Room N w0 w bs x)(hw:aT x c=0):Calls Tryz.prog 89 #[.pointer (some ⟨g,0,none⟩),aK x,.int .i32 c] w (dY N w g (bs++bT x c) keep):=by
 by_cases h1:c=69
 ·subst h1;exact Vu h hr hw
 by_cases h2:c=83
 ·subst h2;exact Vw h hr hw
 by_cases h3:c=82
 ·subst h3;exact Vx h hr hw
 exact Nl c hl ⟨h1,h2,h3⟩ h hr hw
end
end eP
namespace eP
open bg Ops fG Vn JL
theorem zH{x:aO}(h:dP x=0):isKind x.k=true/\∀c∈partsOf x.k,aT x c=0:=by
 unfold dP at h;by_cases hk:isKind x.k=true
 ·rw[if_pos hk]at h;exact⟨hk,zN h⟩
 ·rw[if_neg hk]at h;cases h
theorem Vy(w:World)(x:aO)(h:pU w x):Calls Tryz.prog 53 #[aK x] w fun e w'=>e=.returned (.tuple #[.string (nH x),.int .i64 (dP x)])/\Kept aj w w':=by
 obtain⟨W0,hW0⟩:∃W0,w.alloc (.cells (au x).toArray 63)=W0:=⟨_,rfl⟩;have hk0:Kept aj w W0:=by rw[<-hW0];(repeat'(first|(with_reducible first|exact ay|apply aA|apply aB|apply aC|apply aF)|(right;simp;done)))
 have hn0:Has W0 w.heap.size 63 (au x).toArray:=by rw[<-hW0];exact Has.new _ _ _
 have iy:=GL W0 x (h.kept hk0);have aS:=ah hk0;have dZ:=ah hn0;have HX:=ah h;have hlt0:w.heap.size<W0.heap.size:=hn0.lt;clear hk0 hn0 h;by_cases hz:dP x=0;rotate_left
 ·have hr:nH x=emp:=by unfold nH;rw[if_neg hz]
  rw[hr];obtain⟨z,hz1⟩:∃z,dP x=z:=⟨_,rfl⟩;rw[hz1]at hz iy⊢;have hz2:(z !=0)=true:=by simpa using hz
  have HC:=ah iy;clear hr hz hz1 iy hlt0;go_enter Tryz.func53,Tryz.ntmps53;go_wp2_with (refine wpList_load_row rfl 63 (.tmp 1) rfl w.heap.size rfl 63 _ (0,0) _ dZ.out Tryz.underlying63 rfl (by kernel_rfl) ?_);clear hW0;refine HC.out.mono ?_;rintro e w2 ⟨rfl,hk⟩;have HK:=ah (aS.out.then hk);clear hk;go_wp2;go_ret2;exact⟨rfl,HK.out⟩
 have hr:nH x=fE (Bg x):=by unfold nH;rw[if_pos hz]
 rw[hr];obtain⟨hkk,hwr⟩:=zH hz;rw[hz]at iy⊢;have Pe:1<=x.k/\x.k<=15:=of_decide_eq_true hkk;have hp:=fun W=>D5 W x.k hkk;have hlet:=rP x.k;have kJ:=pV x.k;have hpm:Bg x=put x.k.toNat++(partsOf x.k).flatMap (bT x):=rfl;rw[hpm];obtain⟨l,hl⟩:∃l,partsOf x.k=l:=⟨_,rfl⟩;rw[hl]at hp hlet kJ hwr⊢;obtain⟨k,hk⟩:∃k:Nat,x.k=k:=⟨x.k.toNat,by omega⟩;have hq:∀W,Has W w.heap.size 63 (au x).toArray->W.cell? ⟨w.heap.size,0,none⟩=some (.int .i64 (k:Int)):=fun W hW=>by have h0:W.cell? ⟨w.heap.size,0,none⟩=some (.int .i64 x.k):=hW.cell 0;rw[hk]at h0;exact h0
 rw[hk]at hp Pe⊢;rw[Int.toNat_natCast];have HC:=ah iy;have HP:=ah hp;have Bl:=ah hlet;have sO:=ah kJ;have rQ:=ah hwr;have HQ:=ah hq;have Zn:=ah Pe;have acp:=ah hlt0;clear iy hp hlet kJ hwr hq hz hr hkk hk hl hpm Pe hlt0;have q0:=HQ.out _ dZ.out;go_enter Tryz.func53,Tryz.ntmps53;go_wp2_with (refine wpList_load_row rfl 63 (.tmp 1) rfl w.heap.size rfl 63 _ (0,0) _ dZ.out Tryz.underlying63 rfl (by kernel_rfl) ?_);clear hW0 q0;refine HC.out.mono ?_;rintro e w2 ⟨rfl,hk2⟩;have NK:=ah (dZ.out.kept hk2 (fun z=>z));have gJ:=ah (aS.out.then hk2);clear hk2;have q0:=HQ.out _ NK.out;go_wp2_with fail;clear q0;refine(HP.out _).mono ?_;rintro e w3 ⟨rfl,hk3⟩;have JR:=ah (NK.out.kept hk3 (fun z=>z));have dI:=ah (gJ.out.then hk3);clear hk3;have c0:=HQ.out _ JR.out
 have hnew:∀W,Has W w.heap.size 63 (au x).toArray->Calls Tryz.prog 87 #[] W fun e w'=>∃g,e=.returned (.pointer (some ⟨g,0,none⟩))/\WS W.heap.size w' g [] [(w.heap.size,.cells (au x).toArray 63)]/\Kept aj W w':=
  fun W hW=>GM W _ (fun y hy=>by simp at hy;subst hy;exact hW)
 have mF:=ah hnew;clear hnew;go_wp2_with fail
 go_region_held3 (fun W=>W.cell? ⟨w.heap.size,0,none⟩=some (.int .i64 (k:Int))) (first|with_reducible exact q5|with_reducible exact q4|with_reducible exact c0|(simp[go_sem,c0];done))
  (first
   |(go_at_call 87;refine(mF.out _ (by exact JR.out)).mono ?_;rintro e w4 ⟨g,rfl,hw4,Zo⟩;have q4:=HQ.out _ (hw4.has (List.mem_singleton.2 rfl));have jo:=ah hw4;have Zp:=ah Zo;clear hw4 Zo)
   |(go_at_call 88;refine(sN (by exact jo.out) k (by have:=Zn.out;omega) (by simp)).mono ?_;rintro e w5 ⟨rfl,hw5,hb5⟩;have q5:=HQ.out _ (hw5.has (List.mem_singleton.2 rfl));have uP:=ah hw5;have tX:=ah hb5;clear hw5 hb5))
 have hk4:Kept aj w w4:=Kept.then (by(repeat'(first|(with_reducible first|exact ay|apply aA|apply aB|apply aC|apply aF)|(with_reducible exact dI.out)|(right;simp;done)))) Zp.out;have hle:w.heap.size<=w3.heap.size:=dI.out.size;have hk5:Kept aj w w5:=behind hk4 tX.out hle;have hw5:=uP.out;simp only[List.nil_append]at hw5;have hN:(w3.drewN 0).heap.size=w3.heap.size:=rfl;clear q4 q5 c0 jo uP tX Zp hk4 mF HC HP hN;have uP:=ah hw5;have dK:=ah hk5;have yJ:=ah hle;clear hw5 hk5 hle;have WY:=dJ (n:=k) (by have:=Zn.out;omega);have hne:put k≠[]:=by intro e;have h1:=put_pos k;rw[e]at h1;simp at h1
 have HH:=ah (And.intro WY hne);clear WY hne;go_wp2_with fail;go_loopg [] l.length (fun gf wx=>∃i:Nat,i<=l.length/\WS w3.heap.size wx g (put k++(l.take i).flatMap (bT x)) [(w5.heap.size,.stringIter (lets l) i),(w.heap.size,.cells (au x).toArray 63)]/\Kept aj w wx/\l.length<=i+gf)
 case atStart=>exact⟨0,Nat.zero_le _,(by rw[List.take_zero,List.flatMap_nil,List.append_nil];exact uP.out.add (.stringIter (lets l) 0)),dK.out.alloc _,by omega⟩
 case round=>
  obtain⟨i,hi,hws,hk,hfu⟩:=hrel;have HK:=ah hk;clear hk;have hit:wr.heap[w5.heap.size]? =some (.stringIter (lets l) i):=hws.has (List.mem_cons_self ..);by_cases hil:i<l.length
  ·obtain⟨g',rfl⟩:∃g',gk=g'+1:=⟨gk-1,by omega⟩;obtain⟨c,hc⟩:∃c,l[i]? =some c:=⟨_,lB0 hil⟩;have hci:l[i]=c:=by rw[lB0 hil]at hc;exact Option.some.inj hc
   have hcm:=lC0 hc;obtain⟨hps,hb,ha⟩:=Ic Bl.out hc;have hnx:∀ty,(Instr.next (.pointer (some ⟨w5.heap.size,0,none⟩)) true ty).run Tryz.prog wr=_:=fun ty=>Lib.run_next_ascii_at wr w5.heap.size (lets l) i ty hit hps ha;rw[hb]at hnx;have h05:=GN (uP.out.has (List.mem_singleton.2 rfl));have hs2:=hws.iterAt (q:=i+1) (fun y hy=>by simp at hy;subst hy;dsimp only;dsimp only at h05;omega);have hk2:=Kept.iterAt HK.out (k:=w5.heap.size) (.inr dK.out.size) (lets l) (i+1);obtain⟨W,hWd⟩:∃W,wr.iterAt w5.heap.size (lets l) (i+1)=W:=⟨_,rfl⟩;rw[hWd]at hnx hs2 hk2;have hfl:=oW (bT x) (l.take i) 1100 (fun y hy=>IP HX.out (rQ.out y (List.mem_of_mem_take hy)));have hmin:(l.take i).length<=7:=by rw[List.length_take];have:=sO.out;omega
   have hlen:(put k++(l.take i).flatMap (bT x)).length<=100000:=by rw[lA0];have:=HH.out.1;omega
   have hcall:=write_any (w0:=w) c (Bl.out c hcm) hs2 ⟨HX.out,hk2,yJ.out,hlen⟩ (rQ.out c hcm);have jf:=qW (bT x) l i hil;rw[hci]at jf;rw[List.append_assoc,<-jf]at hcall;have Gz:=ah hcall;have HS2:=ah hs2;have mW:=ah hk2;clear hcall hs2 hk2 hWd hb ha hps hit hc hci hcm hfl hmin hlen jf hws h05;go_wp2_with (refine wpList_load_row rfl 63 (.tmp 1) rfl w.heap.size rfl 63 _ (0,0) _ (HS2.out.has (x:=(w.heap.size,.cells (au x).toArray 63)) (List.mem_cons_of_mem _ (List.mem_singleton.2 rfl))) Tryz.underlying63 rfl (by kernel_rfl) ?_);refine Gz.out.mono ?_;rintro e w6 ⟨rfl,hs6,hb6⟩;have qH:=ah hs6;have eu:=ah (behind mW.out hb6 yJ.out);clear hs6 hb6;go_wp2;go_roundg g'
   case measure=>omega
   case rel=>exact⟨i+1,by omega,qH.out,eu.out,by omega⟩
  ·obtain rfl:i=l.length:=by omega
   rw[List.take_length]at hws;have hps:¬l.length<(lets l).size:=by rw[AO];omega
   have hnx:∀ty,(Instr.next (.pointer (some ⟨w5.heap.size,0,none⟩)) true ty).run Tryz.prog wr=_:=fun ty=>Lib.run_next_end_at wr w5.heap.size (lets l) l.length ty hit hps;obtain⟨R,hR⟩:∃R,put k++l.flatMap (bT x)=R:=⟨_,rfl⟩;rw[hR]at hws;have hne:R≠[]:=by rw[<-hR];have:=HH.out.2;simp;intro h;exact absurd h this
   have AU:=ah hws;have lJ:=ah hne;have HR:=ah hR;clear hit hps hne hws hR;go_wp2_with fail;refine(D6 AU.out lJ.out).mono ?_;rintro e w6 ⟨rfl,hb6⟩;have eu:=ah (behind HK.out hb6 yJ.out);clear hb6;go_wp2;go_ret2;exact⟨by rw[HR.out];rfl,eu.out⟩

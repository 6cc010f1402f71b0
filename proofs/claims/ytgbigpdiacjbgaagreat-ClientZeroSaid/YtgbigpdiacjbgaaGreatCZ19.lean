/- Part 20. -/
import Derived.Test.YtgbigpdiacjbgaaGreatCZ18
set_option linter.unusedSimpArgs false
set_option linter.unusedVariables false
set_option maxHeartbeats 32000000
set_option maxRecDepth 100000
namespace Go.Proofs.YtgbigpdiacjbgaaGreat
open Go.RowKit Go.Shelf
namespace bQ
open aJ Ops dG Vn qj
theorem wJ{w:World}{A:Option Addr}{m:Nat}{l:List Int}(h:Src w 1 A m (tK l))(hm:0<m)(i:Nat)(x:Int)(hx:l[i]? =some x):
  ∃ad,A=some ad/\ad.block<w.heap.size/\w.cell? (ad.add i)=some (.int .u64 x):=by
 obtain⟨ad,rfl,had,hcell⟩:=h.2 hm;exact⟨ad,rfl,had,hcell i _ (by unfold tK;rw[List.getElem?_map,hx];rfl)⟩
section
variable{N:Nat}{w w0:World}{g:Nat}{bs:List UInt8}{keep:List KB}{x:aH}
theorem rQ(c:Nat)(hl:c∈letters)(hn:c≠69/\c≠83/\c≠82)(h:WS N w g bs keep)(hr:Room N w0 w bs x)(hw:aG x c=0):Calls Tryz.prog 89 #[.pointer (some ⟨g,0,none⟩),bn x,.int .i32 c] w (dD N w g (bs++aT x c) keep):=by
 obtain⟨W0,hW0⟩:∃W0,w.alloc (.cells (au x).toArray 63)=W0:=⟨_,rfl⟩;have hs0:WS N W0 g bs ((w.heap.size,.cells (au x).toArray 63)::keep):=by rw[<-hW0];exact h.add _
 have hb0:Below N w W0:=by rw[<-hW0];exact bC h _
 have hk0:Kept aj w W0:=by rw[<-hW0];(repeat'(first|(with_reducible first|exact ay|apply aA|apply aB|apply aC|apply aF)|(right;simp;done)))
 have hn0:Has W0 w.heap.size 63 (au x).toArray:=hs0.has (List.mem_cons_self ..);have hcall:=wI c hl hn hs0 (w0:=w0) ⟨hr.x,hr.k.then hk0,hr.n,hr.len⟩ hw;have HC:=ah hcall;have HB:=ah hb0;have dF:=ah hn0;have g1:((c:Int)==69)=false:=by simpa using(by omega:(c:Int)≠69)
 have g2:((c:Int)==83)=false:=by simpa using(by omega:(c:Int)≠83)
 have g3:((c:Int)==82)=false:=by simpa using(by omega:(c:Int)≠82)
 clear hn hl hw h hr hs0 hk0 hn0 hb0 hcall;obtain⟨ci,hci⟩:∃ci:Int,(c:Int)=ci:=⟨_,rfl⟩;rw[hci]at g1 g2 g3 HC⊢;clear hci;go_enter Tryz.func89,Tryz.ntmps89;go_wp2_with (refine wpList_load_row rfl 63 (.tmp 4) rfl w.heap.size rfl 63 _ (0,0) _ dF.out Tryz.underlying63 rfl (by kernel_rfl) ?_);clear hW0;refine HC.out.mono ?_;rintro e w3 ⟨rfl,hs3,hb3⟩;have dQ:=ah hs3.tail;have HB3:=ah (HB.out.trans hb3);clear hs3 hb3;go_wp2;go_end0;exact⟨rfl,dQ.out,HB3.out⟩
theorem yG(h:WS N w g bs keep)(hr:Room N w0 w bs x)(hw:aG x 69=0):Calls Tryz.prog 89 #[.pointer (some ⟨g,0,none⟩),bn x,.int .i32 ((69:Nat):Int)] w (dD N w g (bs++aT x 69) keep):=by
 have hE:aT x 69=put x.es.length++x.es.flatMap fun y:dA=>aP (dR y):=rfl;rw[hE];obtain⟨W0,hW0⟩:∃W0,w.alloc (.cells (au x).toArray 63)=W0:=⟨_,rfl⟩;have hs0:WS N W0 g bs ((w.heap.size,.cells (au x).toArray 63)::keep):=by rw[<-hW0];exact h.add _
 have hb0:Below N w W0:=by rw[<-hW0];exact bC h _
 have hsl:∀W b,WS N W g b ((w.heap.size,.cells (au x).toArray 63)::keep)->W.cell? ⟨w.heap.size,19,none⟩=some (.slice x.eA x.es.length x.ec):=fun W b hW=>Has.cell (t:=63) (hW.has (List.mem_cons_self ..)) 19;have hn:x.es.length<=4:=by
  by_cases hr:4<x.es.length
  ·have hw2:(if 4<x.es.length then (6:Int)else aK (fun y=>Ops.chk (dK y)) x.es)=0:=hw;rw[if_pos hr]at hw2;cases hw2
  ·omega
 have hlen:=hr.len;have HR:=ah hr;have HN:=ah hn;have jI:=ah hlen;have jB:=ah hsl;have HW:=ah hw;clear hn hlen hr h hE hsl hw;obtain⟨l,hl⟩:∃l,x.es=l:=⟨_,rfl⟩;rw[hl]at HN jB⊢;obtain⟨A,hA⟩:∃A,x.eA=A:=⟨_,rfl⟩;rw[hA]at jB;have q:=jB.out _ _ hs0;have HL:=ah hl;have HA:=ah hA;have lF:=ah hs0;have HB0:=ah hb0;clear hs0 hb0 hl hA;go_enter Tryz.func89,Tryz.ntmps89;go_wp2_with fail;clear hW0;refine(dU lF.out l.length (by have:=HN.out;omega) (by have:=jI.out;omega)).mono ?_;rintro e w3 ⟨rfl,hs3,hb3⟩;have q3:=jB.out _ _ hs3;have dQ:=ah hs3;have HB3:=ah (HB0.out.trans hb3);clear hs3 hb3;go_wp2;have heo:∀y∈l,0<=y.ts/\y.ts<=aO:=fun y hy=>(HR.out.x.eo y (by rw[HL.out];exact hy)).2;have qV:=ah heo;clear heo;go_loopw [29] (fun v wr=>∃i:Nat,i<=l.length/\v=.int .i64 i/\WS N wr g (bs++put l.length++(l.take i).flatMap (fun y:dA=>aP (dR y))) ((w.heap.size,.cells (au x).toArray 63)::keep)/\Below N w wr) (fun v _=>l.length-(intOf v).toNat)
 case atStart=>exact⟨0,Nat.zero_le _,rfl,by simpa using dQ.out,HB3.out⟩
 case round=>
  obtain⟨i,hi,rfl,hws,hbw⟩:=hrel;have lG:=ah hbw;clear hbw;have hkw:=behind HR.out.k lG.out HR.out.n;have jS:=ah hkw;clear hkw;have hnl:=HN.out;by_cases hil:i<l.length
  ·obtain⟨y,hy⟩:∃y,l[i]? =some y:=⟨_,lB0 hil⟩;have hyi:l[i]=y:=by rw[lB0 hil]at hy;exact Option.some.inj hy
   have hym:=lC0 hy;have bu:=fO (fun y:dA=>aP (dR y)) l i hil;rw[hyi]at bu
   have hfl:=dL (fun y:dA=>aP (dR y)) (l.take (i+1)) 130 (fun y hy2=>by have hy:=List.mem_of_mem_take hy2;have:=bU (s:=dR y) (m:=121) (ny (qV.out y hy)) (by omega);omega)
   rw[bu,lA0]at hfl;have hmin:(l.take (i+1)).length<=4:=by rw[List.length_take];have:=HN.out;omega
   have hp:=aI (n:=l.length) (by have:=HN.out;omega);have eP:(bs++put l.length++(l.take i).flatMap (fun y:dA=>aP (dR y))).length<=110000:=by rw[lA0,lA0];have:=jI.out;omega
   obtain⟨cur,hcur⟩:∃cur,bs++put l.length++(l.take i).flatMap (fun y:dA=>aP (dR y))=cur:=⟨_,rfl⟩;rw[hcur]at hws eP;have hnext:bs++put l.length++(l.take (i+1)).flatMap (fun y:dA=>aP (dR y))=cur++aP (dR y):=by rw[bu,<-List.append_assoc,hcur]
   have hx:=HR.out.x.kept jS.out;have hsrc:=hx.e;rw[HL.out,HA.out]at hsrc;obtain⟨ad,rfl,had,e0,e1,e2,e3⟩:=pF hsrc (by omega) i y hy;have hyo:=hx.eo y (by rw[HL.out];exact hym);have hsz:=ny hyo.2;have hcall:=yB (wr.alloc (.cells #[.int .i64 y.cl,.int .i64 y.req,.slice y.A y.ops.length y.c,.int .u64 y.ts] 183)) y (hyo.1.kept ((Kept.refl aj wr).alloc _) (fun _ _ z=>z)) hyo.2;obtain⟨s,hs⟩:∃s,dR y=s:=⟨_,rfl⟩;obtain⟨z,hz⟩:∃z,Ops.chk (dK y)=z:=⟨_,rfl⟩;rw[hs,hz]at hcall;rw[hs]at hnext hsz;have lD:=ah hnext;have iI:=ah eP;have HC:=ah hcall;have qQ:=ah hsz;have jV:=ah hws;clear hnext bu hfl hcur hmin hy hyi hym hp eP hx hsrc hyo hsz hcall hs hz hws;go_wp2_with fail;refine HC.out.mono ?_;rintro e w4 ⟨rfl,hk4⟩;have hs4:=WS.kept (G:=aj) (WS.alloc jV.out _) hk4;have hb4:Below N w w4:=(lG.out.trans (bC jV.out _)).trans (hk4.below (WS.alloc jV.out _).1 (fun _ z=>z.elim));have wH:=ah hs4;have HB4:=ah hb4;clear hs4 hb4 hk4;go_wp2_with fail;refine(eu wH.out s (by have:=qQ.out;have:=iI.out;omega)).mono ?_;rintro e w5 ⟨rfl,hs5,hb5⟩;rw[<-lD.out]at hs5;have qW:=ah hs5;have fV:=ah (HB4.out.trans hb5);clear hs5 hb5;go_wp2;go_roundw
   case rel=>exact⟨i+1,by omega,by go_num,qW.out,fV.out⟩
   case measure=>simp[intOf];omega
  ·obtain rfl:i=l.length:=by omega
   rw[List.take_length,List.append_assoc]at hws;have jV:=ah hws.tail;clear hws;go_wp2;go_end0;exact⟨rfl,jV.out,lG.out⟩
theorem yH(h:WS N w g bs keep)(hr:Room N w0 w bs x)(hw:aG x 83=0):Calls Tryz.prog 89 #[.pointer (some ⟨g,0,none⟩),bn x,.int .i32 ((83:Nat):Int)] w (dD N w g (bs++aT x 83) keep):=by
 have hE:aT x 83=put x.ss.length++x.ss.flatMap fun y:Int=>put y.toNat:=rfl;rw[hE];obtain⟨W0,hW0⟩:∃W0,w.alloc (.cells (au x).toArray 63)=W0:=⟨_,rfl⟩;have hs0:WS N W0 g bs ((w.heap.size,.cells (au x).toArray 63)::keep):=by rw[<-hW0];exact h.add _
 have hb0:Below N w W0:=by rw[<-hW0];exact bC h _
 have hsl:∀W b,WS N W g b ((w.heap.size,.cells (au x).toArray 63)::keep)->W.cell? ⟨w.heap.size,20,none⟩=some (.slice x.sA x.ss.length x.sc):=fun W b hW=>Has.cell (t:=63) (hW.has (List.mem_cons_self ..)) 20;have hn:x.ss.length<=8:=by
  by_cases hr:8<x.ss.length
  ·have hw2:(if 8<x.ss.length then (6:Int)else 0)=0:=hw;rw[if_pos hr]at hw2;cases hw2
  ·omega
 have hlen:=hr.len;have HR:=ah hr;have HN:=ah hn;have jI:=ah hlen;have jB:=ah hsl;have HW:=ah hw;clear hn hlen hr h hE hsl hw;obtain⟨l,hl⟩:∃l,x.ss=l:=⟨_,rfl⟩;rw[hl]at HN jB⊢;obtain⟨A,hA⟩:∃A,x.sA=A:=⟨_,rfl⟩;rw[hA]at jB;have q:=jB.out _ _ hs0;have HL:=ah hl;have HA:=ah hA;have lF:=ah hs0;have HB0:=ah hb0;clear hs0 hb0 hl hA;go_enter Tryz.func89,Tryz.ntmps89;go_wp2_with fail;clear hW0;refine(dU lF.out l.length (by have:=HN.out;omega) (by have:=jI.out;omega)).mono ?_;rintro e w3 ⟨rfl,hs3,hb3⟩;have q3:=jB.out _ _ hs3;have dQ:=ah hs3;have HB3:=ah (HB0.out.trans hb3);clear hs3 hb3;go_wp2;have heo:∀y∈l,0<=y/\y<=18446744073709551615:=fun y hy=>HR.out.x.so y (by rw[HL.out];exact hy);have qV:=ah heo;clear heo;go_loopw [52] (fun v wr=>∃i:Nat,i<=l.length/\v=.int .i64 i/\WS N wr g (bs++put l.length++(l.take i).flatMap (fun y:Int=>put y.toNat)) ((w.heap.size,.cells (au x).toArray 63)::keep)/\Below N w wr) (fun v _=>l.length-(intOf v).toNat)
 case atStart=>exact⟨0,Nat.zero_le _,rfl,by simpa using dQ.out,HB3.out⟩
 case round=>
  obtain⟨i,hi,rfl,hws,hbw⟩:=hrel;have lG:=ah hbw;clear hbw;have hkw:=behind HR.out.k lG.out HR.out.n;have jS:=ah hkw;clear hkw;have hnl:=HN.out;by_cases hil:i<l.length
  ·obtain⟨y,hy⟩:∃y,l[i]? =some y:=⟨_,lB0 hil⟩;have hyi:l[i]=y:=by rw[lB0 hil]at hy;exact Option.some.inj hy
   have hym:=lC0 hy;have bu:=fO (fun y:Int=>put y.toNat) l i hil;rw[hyi]at bu
   have hfl:=dL (fun y:Int=>put y.toNat) (l.take (i+1)) 9 (fun y hy2=>by have hy:=List.mem_of_mem_take hy2;have b:=qV.out y hy;exact aI (by omega))
   rw[bu,lA0]at hfl;have hmin:(l.take (i+1)).length<=8:=by rw[List.length_take];have:=HN.out;omega
   have hp:=aI (n:=l.length) (by have:=HN.out;omega);have eP:(bs++put l.length++(l.take i).flatMap (fun y:Int=>put y.toNat)).length<=110000:=by rw[lA0,lA0];have:=jI.out;omega
   obtain⟨cur,hcur⟩:∃cur,bs++put l.length++(l.take i).flatMap (fun y:Int=>put y.toNat)=cur:=⟨_,rfl⟩;rw[hcur]at hws eP;have hnext:bs++put l.length++(l.take (i+1)).flatMap (fun y:Int=>put y.toNat)=cur++put y.toNat:=by rw[bu,<-List.append_assoc,hcur]
   have hsrc:=(HR.out.x.kept jS.out).s;rw[HL.out,HA.out]at hsrc;obtain⟨ad,rfl,had,e0⟩:=wJ hsrc (by omega) i y hy;have hyo:=qV.out y hym;obtain⟨n,rfl⟩:∃n:Nat,y=n:=⟨y.toNat,by omega⟩;rw[Int.toNat_natCast]at hnext;have lD:=ah hnext;have iI:=ah eP;have zB:=ah hyo;have jV:=ah hws;clear hnext bu hfl hcur hmin hy hyi hym hp eP hsrc hyo hws;go_wp2_with fail;refine(l7 jV.out n (by have:=zB.out;omega) (by have:=iI.out;omega)).mono ?_;rintro e w5 ⟨rfl,hs5,hb5⟩;rw[<-lD.out]at hs5;have qW:=ah hs5;have fV:=ah (lG.out.trans hb5);clear hs5 hb5;go_wp2;go_roundw
   case rel=>exact⟨i+1,by omega,by go_num,qW.out,fV.out⟩
   case measure=>simp[intOf];omega
  ·obtain rfl:i=l.length:=by omega
   rw[List.take_length,List.append_assoc]at hws;have jV:=ah hws.tail;clear hws;go_wp2;go_end0;exact⟨rfl,jV.out,lG.out⟩
theorem yI(h:WS N w g bs keep)(hr:Room N w0 w bs x)(hw:aG x 82=0):Calls Tryz.prog 89 #[.pointer (some ⟨g,0,none⟩),bn x,.int .i32 ((82:Nat):Int)] w (dD N w g (bs++aT x 82) keep):=by
 have hE:aT x 82=put x.ps.length++x.ps.flatMap fun y:bP=>aP y.key++aP y.val:=rfl;rw[hE];obtain⟨W0,hW0⟩:∃W0,w.alloc (.cells (au x).toArray 63)=W0:=⟨_,rfl⟩;have hs0:WS N W0 g bs ((w.heap.size,.cells (au x).toArray 63)::keep):=by rw[<-hW0];exact h.add _
 have hb0:Below N w W0:=by rw[<-hW0];exact bC h _
 have hsl:∀W b,WS N W g b ((w.heap.size,.cells (au x).toArray 63)::keep)->W.cell? ⟨w.heap.size,21,none⟩=some (.slice x.pA x.ps.length x.pc):=fun W b hW=>Has.cell (t:=63) (hW.has (List.mem_cons_self ..)) 21;have hn:x.ps.length<=32:=by
  by_cases hr:32<x.ps.length
  ·have hw2:(if 32<x.ps.length then (6:Int)else aK dS x.ps)=0:=hw;rw[if_pos hr]at hw2;cases hw2
  ·omega
 have hlen:=hr.len;have HR:=ah hr;have HN:=ah hn;have jI:=ah hlen;have jB:=ah hsl;have HW:=ah hw;clear hn hlen hr h hE hsl hw;obtain⟨l,hl⟩:∃l,x.ps=l:=⟨_,rfl⟩;rw[hl]at HN jB⊢;obtain⟨A,hA⟩:∃A,x.pA=A:=⟨_,rfl⟩;rw[hA]at jB;have q:=jB.out _ _ hs0;have HL:=ah hl;have HA:=ah hA;have lF:=ah hs0;have HB0:=ah hb0;clear hs0 hb0 hl hA;go_enter Tryz.func89,Tryz.ntmps89;go_wp2_with fail;clear hW0;refine(dU lF.out l.length (by have:=HN.out;omega) (by have:=jI.out;omega)).mono ?_;rintro e w3 ⟨rfl,hs3,hb3⟩;have q3:=jB.out _ _ hs3;have dQ:=ah hs3;have HB3:=ah (HB0.out.trans hb3);clear hs3 hb3;go_wp2;have heo:∀y∈l,y.key.size<=8/\y.val.size<=8:=by
  have hw2:(if 32<x.ps.length then (6:Int)else aK dS x.ps)=0:=HW.out;rw[if_neg (by rw[HL.out];have:=HN.out;omega),HL.out]at hw2;intro y hy;have hy0:=jh hw2 y hy;unfold dS keyE at hy0;by_cases e1:y.key.size<1\/8<y.key.size
  ·rw[if_pos e1,if_pos (by decide)]at hy0;cases hy0
  ·rw[if_neg e1,if_neg (by decide)]at hy0;refine⟨by omega,?_⟩;by_cases e2:8<y.val.size
   ·rw[if_pos e2]at hy0;cases hy0
   ·omega
 have qV:=ah heo;clear heo;go_loopw [70] (fun v wr=>∃i:Nat,i<=l.length/\v=.int .i64 i/\WS N wr g (bs++put l.length++(l.take i).flatMap (fun y:bP=>aP y.key++aP y.val)) ((w.heap.size,.cells (au x).toArray 63)::keep)/\Below N w wr) (fun v _=>l.length-(intOf v).toNat)
 case atStart=>exact⟨0,Nat.zero_le _,rfl,by simpa using dQ.out,HB3.out⟩
 case round=>
  obtain⟨i,hi,rfl,hws,hbw⟩:=hrel;have lG:=ah hbw;clear hbw;have hkw:=behind HR.out.k lG.out HR.out.n;have jS:=ah hkw;clear hkw;have hnl:=HN.out;by_cases hil:i<l.length
  ·obtain⟨y,hy⟩:∃y,l[i]? =some y:=⟨_,lB0 hil⟩;have hyi:l[i]=y:=by rw[lB0 hil]at hy;exact Option.some.inj hy
   have hym:=lC0 hy;have bu:=fO (fun y:bP=>aP y.key++aP y.val) l i hil;rw[hyi]at bu
   have hfl:=dL (fun y:bP=>aP y.key++aP y.val) (l.take (i+1)) 34 (fun y hy2=>by have hy:=List.mem_of_mem_take hy2;have b:=qV.out y hy;have b1:=bU (s:=y.key) (m:=8) (by omega) (by omega);have b2:=bU (s:=y.val) (m:=8) (by omega) (by omega);rw[lA0];omega)
   rw[bu,lA0]at hfl;have hmin:(l.take (i+1)).length<=32:=by rw[List.length_take];have:=HN.out;omega
   have hp:=aI (n:=l.length) (by have:=HN.out;omega);have eP:(bs++put l.length++(l.take i).flatMap (fun y:bP=>aP y.key++aP y.val)).length<=110000:=by rw[lA0,lA0];have:=jI.out;omega
   obtain⟨cur,hcur⟩:∃cur,bs++put l.length++(l.take i).flatMap (fun y:bP=>aP y.key++aP y.val)=cur:=⟨_,rfl⟩;rw[hcur]at hws eP;have hnext:bs++put l.length++(l.take (i+1)).flatMap (fun y:bP=>aP y.key++aP y.val)=(cur++aP y.key)++aP y.val:=by rw[bu,<-List.append_assoc,hcur];simp only[List.append_assoc]
   have hsrc:=(HR.out.x.kept jS.out).p;rw[HL.out,HA.out]at hsrc;obtain⟨ad,rfl,had,e0,e1⟩:=pair_cells hsrc (by omega) i y hy;have hyo:=qV.out y hym;have b1:=bU (s:=y.key) (m:=8) (by omega) (by omega);have hw0:=hws.add (.cells #[.string y.key,.string y.val] 84)
   have hos:∀W b,WS N W g b ((wr.heap.size,.cells #[.string y.key,.string y.val] 84)::(w.heap.size,.cells (au x).toArray 63)::keep)->(W.cell? ⟨wr.heap.size,0,none⟩=some (.string y.key)/\W.cell? ⟨wr.heap.size,1,none⟩=some (.string y.val)):=
    fun W b hW=>⟨Has.cell (t:=84) (hW.has (List.mem_cons_self ..)) 0,Has.cell (t:=84) (hW.has (List.mem_cons_self ..)) 1⟩
   have hbx:=lG.out.trans (bC hws (.cells #[.string y.key,.string y.val] 84));have lD:=ah hnext;have iI:=ah eP;have zB:=ah (And.intro hyo b1);have HW0:=ah hw0;have jA:=ah hos;have Bl:=ah hbx;clear hnext bu hfl hcur hmin hy hyi hym hp eP hsrc hyo hws hw0 hos b1 hbx;have r0:=jA.out _ _ HW0.out;go_wp2_with fail
   go_region_held3 (fun W=>W.cell? ⟨wr.heap.size,0,none⟩=some (.string y.key)/\W.cell? ⟨wr.heap.size,1,none⟩=some (.string y.val)) (first|with_reducible exact r2|with_reducible exact r1|with_reducible exact r0|(simp[go_sem,r0];done))
    (first
     |(have hx:=pN;clear hx;go_at_call 131;refine(eu (by exact pN.out) y.val (by have:=iI.out;have:=zB.out;simp;omega)).mono ?_;rintro e w4 ⟨rfl,hv2,hd2⟩;have r2:=jA.out _ _ hv2;have sG:=ah hv2;have HD2:=ah hd2;clear hv2 hd2)
     |(go_at_call 131;refine(eu (by exact HW0.out) y.key (by have:=iI.out;have:=zB.out;omega)).mono ?_;rintro e w3 ⟨rfl,hv1,hd1⟩;have r1:=jA.out _ _ hv1;have pN:=ah hv1;have HD1:=ah hd1;clear hv1 hd1))
   have hb4:Below N w w4:=(Bl.out.drew.trans HD1.out).trans HD2.out;have hv:=sG.out.tail;rw[<-lD.out]at hv;have HV:=ah hv;have HB4:=ah hb4;clear hv hb4;go_wp2;go_roundw
   case rel=>exact⟨i+1,by omega,by go_num,HV.out,HB4.out⟩
   case measure=>simp[intOf];omega
  ·obtain rfl:i=l.length:=by omega
   rw[List.take_length,List.append_assoc]at hws;have jV:=ah hws.tail;clear hws;go_wp2;go_end0;exact⟨rfl,jV.out,lG.out⟩
theorem write_any(c:Nat)(hl:c∈letters)(h:WS N w g bs keep)(hr:Room N w0 w bs x)(hw:aG x c=0):Calls Tryz.prog 89 #[.pointer (some ⟨g,0,none⟩),bn x,.int .i32 c] w (dD N w g (bs++aT x c) keep):=by
 by_cases h1:c=69
 ·subst h1;exact yG h hr hw
 by_cases h2:c=83
 ·subst h2;exact yH h hr hw
 by_cases h3:c=82
 ·subst h3;exact yI h hr hw
 exact rQ c hl ⟨h1,h2,h3⟩ h hr hw

/- Part 24. -/
import Derived.Test.YtomccaocggplgaaGreatMP22
set_option linter.unusedSimpArgs false
set_option linter.unusedVariables false
set_option maxHeartbeats 32000000
set_option maxRecDepth 100000
namespace Go.Proofs.YtomccaocggplgaaGreat
open Go.RowKit Go.Shelf
namespace gu
open aJ Ops yt Vn NV
theorem Zh{w:World}{A:Option Addr}{m:Nat}{l:List Int}(h:Src w 1 A m (xY l))(hm:0<m)(i:Nat)(x:Int)(hx:l[i]? =some x):
  ∃ad,A=some ad/\ad.block<w.heap.size/\w.cell? (ad.add i)=some (.int .u64 x):=by
 obtain⟨ad,rfl,had,hcell⟩:=h.2 hm;exact⟨ad,rfl,had,hcell i _ (by unfold xY;rw[List.getElem?_map,hx];rfl)⟩
section
variable{N:Nat}{w w0:World}{g:Nat}{bs:List UInt8}{keep:List KB}{x:bD}
theorem SE(c:Nat)(hl:c∈letters)(hn:c≠69/\c≠83/\c≠82)(h:WS N w g bs keep)(hr:Room N w0 w bs x)(hw:dD x c=0):Calls Tryz.prog 228 #[.pointer (some ⟨g,0,none⟩),iE x,.int .i32 c] w (qy N w g (bs++gX x c) keep):=by
 obtain⟨W0,hW0⟩:∃W0,w.alloc (.cells (aI x).toArray 45)=W0:=⟨_,rfl⟩;have hs0:WS N W0 g bs ((w.heap.size,.cells (aI x).toArray 45)::keep):=by rw[<-hW0];exact h.add _
 have hb0:Below N w W0:=by rw[<-hW0];exact jB h _
 have hk0:Kept aj w W0:=by rw[<-hW0];(repeat'(first|(with_reducible first|exact ak|apply au|apply ay|apply aA|apply aB)|(right;simp;done)))
 have hn0:Has W0 w.heap.size 45 (aI x).toArray:=hs0.has (List.mem_cons_self ..);have hcall:=Zg c hl hn hs0 (w0:=w0) ⟨hr.x,hr.k.then hk0,hr.n,hr.len⟩ hw;have HC:=ah hcall;have HB:=ah hb0;have dW:=ah hn0;have g1:((c:Int)==69)=false:=by simpa using(by omega:(c:Int)≠69)
 have g2:((c:Int)==83)=false:=by simpa using(by omega:(c:Int)≠83)
 have g3:((c:Int)==82)=false:=by simpa using(by omega:(c:Int)≠82)
 clear hn hl hw h hr hs0 hk0 hn0 hb0 hcall;obtain⟨ci,hci⟩:∃ci:Int,(c:Int)=ci:=⟨_,rfl⟩;rw[hci]at g1 g2 g3 HC⊢;clear hci;go_enter Tryz.func228,Tryz.ntmps228;go_wp2_with (refine wpList_load_row rfl 45 (.tmp 4) rfl w.heap.size rfl 45 _ (0,0) _ dW.out Tryz.underlying45 rfl (by kernel_rfl) ?_);clear hW0;refine HC.out.mono ?_;rintro e w3 ⟨rfl,hs3,hb3⟩;have jF:=ah hs3.tail;have HB3:=ah (HB.out.trans hb3);clear hs3 hb3;go_wp2;go_end0;exact⟨rfl,jF.out,HB3.out⟩
theorem ace(h:WS N w g bs keep)(hr:Room N w0 w bs x)(hw:dD x 69=0):Calls Tryz.prog 228 #[.pointer (some ⟨g,0,none⟩),iE x,.int .i32 ((69:Nat):Int)] w (qy N w g (bs++gX x 69) keep):=by
 have hE:gX x 69=put x.es.length++x.es.flatMap fun y:lW=>dR (oz y):=rfl;rw[hE];obtain⟨W0,hW0⟩:∃W0,w.alloc (.cells (aI x).toArray 45)=W0:=⟨_,rfl⟩;have hs0:WS N W0 g bs ((w.heap.size,.cells (aI x).toArray 45)::keep):=by rw[<-hW0];exact h.add _
 have hb0:Below N w W0:=by rw[<-hW0];exact jB h _
 have hsl:∀W b,WS N W g b ((w.heap.size,.cells (aI x).toArray 45)::keep)->W.cell? ⟨w.heap.size,19,none⟩=some (.slice x.eA x.es.length x.ec):=fun W b hW=>Has.cell (t:=45) (hW.has (List.mem_cons_self ..)) 19;have hn:x.es.length<=4:=by
  by_cases hr:4<x.es.length
  ·have hw2:(if 4<x.es.length then (6:Int)else fA (fun y=>Ops.chk (oW y)) x.es)=0:=hw;rw[if_pos hr]at hw2;cases hw2
  ·omega
 have hlen:=hr.len;have HR:=ah hr;have HN:=ah hn;have lH:=ah hlen;have yx:=ah hsl;have HW:=ah hw;clear hn hlen hr h hE hsl hw;obtain⟨l,hl⟩:∃l,x.es=l:=⟨_,rfl⟩;rw[hl]at HN yx⊢;obtain⟨A,hA⟩:∃A,x.eA=A:=⟨_,rfl⟩;rw[hA]at yx;have q:=yx.out _ _ hs0;have HL:=ah hl;have HA:=ah hA;have zC:=ah hs0;have HB0:=ah hb0;clear hs0 hb0 hl hA;go_enter Tryz.func228,Tryz.ntmps228;go_wp2_with fail;clear hW0;refine(iI zC.out l.length (by have:=HN.out;omega) (by have:=lH.out;omega)).mono ?_;rintro e w3 ⟨rfl,hs3,hb3⟩;have q3:=yx.out _ _ hs3;have jF:=ah hs3;have HB3:=ah (HB0.out.trans hb3);clear hs3 hb3;go_wp2;have heo:∀y∈l,0<=y.ts/\y.ts<=aW:=fun y hy=>(HR.out.x.eo y (by rw[HL.out];exact hy)).2;have P7:=ah heo;clear heo;go_loopw [29] (fun v wr=>∃i:Nat,i<=l.length/\v=.int .i64 i/\WS N wr g (bs++put l.length++(l.take i).flatMap (fun y:lW=>dR (oz y))) ((w.heap.size,.cells (aI x).toArray 45)::keep)/\Below N w wr) (fun v _=>l.length-(intOf v).toNat)
 case atStart=>exact⟨0,Nat.zero_le _,rfl,by simpa using jF.out,HB3.out⟩
 case round=>
  obtain⟨i,hi,rfl,hws,hbw⟩:=hrel;have yA:=ah hbw;clear hbw;have hkw:=behind HR.out.k yA.out HR.out.n;have oq:=ah hkw;clear hkw;have hnl:=HN.out;by_cases hil:i<l.length
  ·obtain⟨y,hy⟩:∃y,l[i]? =some y:=⟨_,List.getElem?_eq_getElem hil⟩;have hyi:l[i]=y:=by rw[List.getElem?_eq_getElem hil]at hy;exact Option.some.inj hy
   have hym:=List.mem_of_getElem? hy;have iP:=qY (fun y:lW=>dR (oz y)) l i hil;rw[hyi]at iP
   have hfl:=oI (fun y:lW=>dR (oz y)) (l.take (i+1)) 130 (fun y hy2=>by have hy:=List.mem_of_mem_take hy2;have:=jO (s:=oz y) (m:=121) (yV (P7.out y hy)) (by omega);omega)
   rw[iP,List.length_append]at hfl;have hmin:(l.take (i+1)).length<=4:=by rw[List.length_take];have:=HN.out;omega
   have hp:=bH (n:=l.length) (by have:=HN.out;omega);have pX:(bs++put l.length++(l.take i).flatMap (fun y:lW=>dR (oz y))).length<=110000:=by rw[List.length_append,List.length_append];have:=lH.out;omega
   obtain⟨cur,hcur⟩:∃cur,bs++put l.length++(l.take i).flatMap (fun y:lW=>dR (oz y))=cur:=⟨_,rfl⟩;rw[hcur]at hws pX;have hnext:bs++put l.length++(l.take (i+1)).flatMap (fun y:lW=>dR (oz y))=cur++dR (oz y):=by rw[iP,<-List.append_assoc,hcur]
   have hx:=HR.out.x.kept oq.out;have hsrc:=hx.e;rw[HL.out,HA.out]at hsrc;obtain⟨ad,rfl,had,e0,e1,e2,e3⟩:=Lm hsrc (by omega) i y hy;have hyo:=hx.eo y (by rw[HL.out];exact hym);have hsz:=yV hyo.2;have hcall:=OG (wr.alloc (.cells #[.int .i64 y.cl,.int .i64 y.req,.slice y.A y.ops.length y.c,.int .u64 y.ts] 74)) y (hyo.1.kept ((Kept.refl aj wr).alloc _) (fun _ _ z=>z)) hyo.2;obtain⟨s,hs⟩:∃s,oz y=s:=⟨_,rfl⟩;obtain⟨z,hz⟩:∃z,Ops.chk (oW y)=z:=⟨_,rfl⟩;rw[hs,hz]at hcall;rw[hs]at hnext hsz;have pM:=ah hnext;have jP:=ah pX;have HC:=ah hcall;have kR:=ah hsz;have y9:=ah hws;clear hnext iP hfl hcur hmin hy hyi hym hp pX hx hsrc hyo hsz hcall hs hz hws;go_wp2_with fail;refine HC.out.mono ?_;rintro e w4 ⟨rfl,hk4⟩;have hs4:=WS.kept (G:=aj) (WS.alloc y9.out _) hk4;have hb4:Below N w w4:=(yA.out.trans (jB y9.out _)).trans (hk4.below (WS.alloc y9.out _).1 (fun _ z=>z.elim));have rH:=ah hs4;have HB4:=ah hb4;clear hs4 hb4 hk4;go_wp2_with fail;refine(pJ rH.out s (by have:=kR.out;have:=jP.out;omega)).mono ?_;rintro e w5 ⟨rfl,hs5,hb5⟩;rw[<-pM.out]at hs5;have pN:=ah hs5;have jv:=ah (HB4.out.trans hb5);clear hs5 hb5;go_wp2;go_roundw
   case rel=>exact⟨i+1,by omega,by go_num,pN.out,jv.out⟩
   case measure=>simp[intOf];omega
  ·obtain rfl:i=l.length:=by omega
   rw[List.take_length,List.append_assoc]at hws;have y9:=ah hws.tail;clear hws;go_wp2;go_end0;exact⟨rfl,y9.out,yA.out⟩
theorem acf(h:WS N w g bs keep)(hr:Room N w0 w bs x)(hw:dD x 83=0):Calls Tryz.prog 228 #[.pointer (some ⟨g,0,none⟩),iE x,.int .i32 ((83:Nat):Int)] w (qy N w g (bs++gX x 83) keep):=by
 have hE:gX x 83=put x.ss.length++x.ss.flatMap fun y:Int=>put y.toNat:=rfl;rw[hE];obtain⟨W0,hW0⟩:∃W0,w.alloc (.cells (aI x).toArray 45)=W0:=⟨_,rfl⟩;have hs0:WS N W0 g bs ((w.heap.size,.cells (aI x).toArray 45)::keep):=by rw[<-hW0];exact h.add _
 have hb0:Below N w W0:=by rw[<-hW0];exact jB h _
 have hsl:∀W b,WS N W g b ((w.heap.size,.cells (aI x).toArray 45)::keep)->W.cell? ⟨w.heap.size,20,none⟩=some (.slice x.sA x.ss.length x.sc):=fun W b hW=>Has.cell (t:=45) (hW.has (List.mem_cons_self ..)) 20;have hn:x.ss.length<=8:=by
  by_cases hr:8<x.ss.length
  ·have hw2:(if 8<x.ss.length then (6:Int)else 0)=0:=hw;rw[if_pos hr]at hw2;cases hw2
  ·omega
 have hlen:=hr.len;have HR:=ah hr;have HN:=ah hn;have lH:=ah hlen;have yx:=ah hsl;have HW:=ah hw;clear hn hlen hr h hE hsl hw;obtain⟨l,hl⟩:∃l,x.ss=l:=⟨_,rfl⟩;rw[hl]at HN yx⊢;obtain⟨A,hA⟩:∃A,x.sA=A:=⟨_,rfl⟩;rw[hA]at yx;have q:=yx.out _ _ hs0;have HL:=ah hl;have HA:=ah hA;have zC:=ah hs0;have HB0:=ah hb0;clear hs0 hb0 hl hA;go_enter Tryz.func228,Tryz.ntmps228;go_wp2_with fail;clear hW0;refine(iI zC.out l.length (by have:=HN.out;omega) (by have:=lH.out;omega)).mono ?_;rintro e w3 ⟨rfl,hs3,hb3⟩;have q3:=yx.out _ _ hs3;have jF:=ah hs3;have HB3:=ah (HB0.out.trans hb3);clear hs3 hb3;go_wp2;have heo:∀y∈l,0<=y/\y<=18446744073709551615:=fun y hy=>HR.out.x.so y (by rw[HL.out];exact hy);have P7:=ah heo;clear heo;go_loopw [52] (fun v wr=>∃i:Nat,i<=l.length/\v=.int .i64 i/\WS N wr g (bs++put l.length++(l.take i).flatMap (fun y:Int=>put y.toNat)) ((w.heap.size,.cells (aI x).toArray 45)::keep)/\Below N w wr) (fun v _=>l.length-(intOf v).toNat)
 case atStart=>exact⟨0,Nat.zero_le _,rfl,by simpa using jF.out,HB3.out⟩
 case round=>
  obtain⟨i,hi,rfl,hws,hbw⟩:=hrel;have yA:=ah hbw;clear hbw;have hkw:=behind HR.out.k yA.out HR.out.n;have oq:=ah hkw;clear hkw;have hnl:=HN.out;by_cases hil:i<l.length
  ·obtain⟨y,hy⟩:∃y,l[i]? =some y:=⟨_,List.getElem?_eq_getElem hil⟩;have hyi:l[i]=y:=by rw[List.getElem?_eq_getElem hil]at hy;exact Option.some.inj hy
   have hym:=List.mem_of_getElem? hy;have iP:=qY (fun y:Int=>put y.toNat) l i hil;rw[hyi]at iP
   have hfl:=oI (fun y:Int=>put y.toNat) (l.take (i+1)) 9 (fun y hy2=>by have hy:=List.mem_of_mem_take hy2;have b:=P7.out y hy;exact bH (by omega))
   rw[iP,List.length_append]at hfl;have hmin:(l.take (i+1)).length<=8:=by rw[List.length_take];have:=HN.out;omega
   have hp:=bH (n:=l.length) (by have:=HN.out;omega);have pX:(bs++put l.length++(l.take i).flatMap (fun y:Int=>put y.toNat)).length<=110000:=by rw[List.length_append,List.length_append];have:=lH.out;omega
   obtain⟨cur,hcur⟩:∃cur,bs++put l.length++(l.take i).flatMap (fun y:Int=>put y.toNat)=cur:=⟨_,rfl⟩;rw[hcur]at hws pX;have hnext:bs++put l.length++(l.take (i+1)).flatMap (fun y:Int=>put y.toNat)=cur++put y.toNat:=by rw[iP,<-List.append_assoc,hcur]
   have hsrc:=(HR.out.x.kept oq.out).s;rw[HL.out,HA.out]at hsrc;obtain⟨ad,rfl,had,e0⟩:=Zh hsrc (by omega) i y hy;have hyo:=P7.out y hym;obtain⟨n,rfl⟩:∃n:Nat,y=n:=⟨y.toNat,by omega⟩;rw[Int.toNat_natCast]at hnext;have pM:=ah hnext;have jP:=ah pX;have HYO:=ah hyo;have y9:=ah hws;clear hnext iP hfl hcur hmin hy hyi hym hp pX hsrc hyo hws;go_wp2_with fail;refine(yD y9.out n (by have:=HYO.out;omega) (by have:=jP.out;omega)).mono ?_;rintro e w5 ⟨rfl,hs5,hb5⟩;rw[<-pM.out]at hs5;have pN:=ah hs5;have jv:=ah (yA.out.trans hb5);clear hs5 hb5;go_wp2;go_roundw
   case rel=>exact⟨i+1,by omega,by go_num,pN.out,jv.out⟩
   case measure=>simp[intOf];omega
  ·obtain rfl:i=l.length:=by omega
   rw[List.take_length,List.append_assoc]at hws;have y9:=ah hws.tail;clear hws;go_wp2;go_end0;exact⟨rfl,y9.out,yA.out⟩
theorem acg(h:WS N w g bs keep)(hr:Room N w0 w bs x)(hw:dD x 82=0):Calls Tryz.prog 228 #[.pointer (some ⟨g,0,none⟩),iE x,.int .i32 ((82:Nat):Int)] w (qy N w g (bs++gX x 82) keep):=by
 have hE:gX x 82=put x.ps.length++x.ps.flatMap fun y:mW=>dR y.key++dR y.val:=rfl;rw[hE];obtain⟨W0,hW0⟩:∃W0,w.alloc (.cells (aI x).toArray 45)=W0:=⟨_,rfl⟩;have hs0:WS N W0 g bs ((w.heap.size,.cells (aI x).toArray 45)::keep):=by rw[<-hW0];exact h.add _
 have hb0:Below N w W0:=by rw[<-hW0];exact jB h _
 have hsl:∀W b,WS N W g b ((w.heap.size,.cells (aI x).toArray 45)::keep)->W.cell? ⟨w.heap.size,21,none⟩=some (.slice x.pA x.ps.length x.pc):=fun W b hW=>Has.cell (t:=45) (hW.has (List.mem_cons_self ..)) 21;have hn:x.ps.length<=32:=by
  by_cases hr:32<x.ps.length
  ·have hw2:(if 32<x.ps.length then (6:Int)else fA qQ x.ps)=0:=hw;rw[if_pos hr]at hw2;cases hw2
  ·omega
 have hlen:=hr.len;have HR:=ah hr;have HN:=ah hn;have lH:=ah hlen;have yx:=ah hsl;have HW:=ah hw;clear hn hlen hr h hE hsl hw;obtain⟨l,hl⟩:∃l,x.ps=l:=⟨_,rfl⟩;rw[hl]at HN yx⊢;obtain⟨A,hA⟩:∃A,x.pA=A:=⟨_,rfl⟩;rw[hA]at yx;have q:=yx.out _ _ hs0;have HL:=ah hl;have HA:=ah hA;have zC:=ah hs0;have HB0:=ah hb0;clear hs0 hb0 hl hA;go_enter Tryz.func228,Tryz.ntmps228;go_wp2_with fail;clear hW0;refine(iI zC.out l.length (by have:=HN.out;omega) (by have:=lH.out;omega)).mono ?_;rintro e w3 ⟨rfl,hs3,hb3⟩;have q3:=yx.out _ _ hs3;have jF:=ah hs3;have HB3:=ah (HB0.out.trans hb3);clear hs3 hb3;go_wp2;have heo:∀y∈l,y.key.size<=8/\y.val.size<=8:=by
  have hw2:(if 32<x.ps.length then (6:Int)else fA qQ x.ps)=0:=HW.out;rw[if_neg (by rw[HL.out];have:=HN.out;omega),HL.out]at hw2;intro y hy;have hy0:=uS hw2 y hy;unfold qQ keyE at hy0;by_cases e1:y.key.size<1\/8<y.key.size
  ·rw[if_pos e1,if_pos (by decide)]at hy0;cases hy0
  ·rw[if_neg e1,if_neg (by decide)]at hy0;refine⟨by omega,?_⟩;by_cases e2:8<y.val.size
   ·rw[if_pos e2]at hy0;cases hy0
   ·omega
 have P7:=ah heo;clear heo;go_loopw [70] (fun v wr=>∃i:Nat,i<=l.length/\v=.int .i64 i/\WS N wr g (bs++put l.length++(l.take i).flatMap (fun y:mW=>dR y.key++dR y.val)) ((w.heap.size,.cells (aI x).toArray 45)::keep)/\Below N w wr) (fun v _=>l.length-(intOf v).toNat)
 case atStart=>exact⟨0,Nat.zero_le _,rfl,by simpa using jF.out,HB3.out⟩
 case round=>
  obtain⟨i,hi,rfl,hws,hbw⟩:=hrel;have yA:=ah hbw;clear hbw;have hkw:=behind HR.out.k yA.out HR.out.n;have oq:=ah hkw;clear hkw;have hnl:=HN.out;by_cases hil:i<l.length
  ·obtain⟨y,hy⟩:∃y,l[i]? =some y:=⟨_,List.getElem?_eq_getElem hil⟩;have hyi:l[i]=y:=by rw[List.getElem?_eq_getElem hil]at hy;exact Option.some.inj hy
   have hym:=List.mem_of_getElem? hy;have iP:=qY (fun y:mW=>dR y.key++dR y.val) l i hil;rw[hyi]at iP
   have hfl:=oI (fun y:mW=>dR y.key++dR y.val) (l.take (i+1)) 34 (fun y hy2=>by have hy:=List.mem_of_mem_take hy2;have b:=P7.out y hy;have b1:=jO (s:=y.key) (m:=8) (by omega) (by omega);have b2:=jO (s:=y.val) (m:=8) (by omega) (by omega);rw[List.length_append];omega)
   rw[iP,List.length_append]at hfl;have hmin:(l.take (i+1)).length<=32:=by rw[List.length_take];have:=HN.out;omega
   have hp:=bH (n:=l.length) (by have:=HN.out;omega);have pX:(bs++put l.length++(l.take i).flatMap (fun y:mW=>dR y.key++dR y.val)).length<=110000:=by rw[List.length_append,List.length_append];have:=lH.out;omega
   obtain⟨cur,hcur⟩:∃cur,bs++put l.length++(l.take i).flatMap (fun y:mW=>dR y.key++dR y.val)=cur:=⟨_,rfl⟩;rw[hcur]at hws pX;have hnext:bs++put l.length++(l.take (i+1)).flatMap (fun y:mW=>dR y.key++dR y.val)=(cur++dR y.key)++dR y.val:=by rw[iP,<-List.append_assoc,hcur];simp only[List.append_assoc]
   have hsrc:=(HR.out.x.kept oq.out).p;rw[HL.out,HA.out]at hsrc;obtain⟨ad,rfl,had,e0,e1⟩:=pair_cells hsrc (by omega) i y hy;have hyo:=P7.out y hym;have b1:=jO (s:=y.key) (m:=8) (by omega) (by omega);have hw0:=hws.add (.cells #[.string y.key,.string y.val] 301)
   have hos:∀W b,WS N W g b ((wr.heap.size,.cells #[.string y.key,.string y.val] 301)::(w.heap.size,.cells (aI x).toArray 45)::keep)->(W.cell? ⟨wr.heap.size,0,none⟩=some (.string y.key)/\W.cell? ⟨wr.heap.size,1,none⟩=some (.string y.val)):=
    fun W b hW=>⟨Has.cell (t:=301) (hW.has (List.mem_cons_self ..)) 0,Has.cell (t:=301) (hW.has (List.mem_cons_self ..)) 1⟩
   have hbx:=yA.out.trans (jB hws (.cells #[.string y.key,.string y.val] 301));have pM:=ah hnext;have jP:=ah pX;have HYO:=ah (And.intro hyo b1);have HW0:=ah hw0;have DT:=ah hos;have D4:=ah hbx;clear hnext iP hfl hcur hmin hy hyi hym hp pX hsrc hyo hws hw0 hos b1 hbx;have r0:=DT.out _ _ HW0.out;go_wp2_with fail
   go_region_held3 (fun W=>W.cell? ⟨wr.heap.size,0,none⟩=some (.string y.key)/\W.cell? ⟨wr.heap.size,1,none⟩=some (.string y.val)) (first|with_reducible exact r2|with_reducible exact r1|with_reducible exact r0|(simp[go_sem,r0];done))
    (first
     |(have hx:=ru;clear hx;go_at_call 115;refine(pJ (by exact ru.out) y.val (by have:=jP.out;have:=HYO.out;simp;omega)).mono ?_;rintro e w4 ⟨rfl,hv2,hd2⟩;have r2:=DT.out _ _ hv2;have sH:=ah hv2;have HD2:=ah hd2;clear hv2 hd2)
     |(go_at_call 115;refine(pJ (by exact HW0.out) y.key (by have:=jP.out;have:=HYO.out;omega)).mono ?_;rintro e w3 ⟨rfl,hv1,hd1⟩;have r1:=DT.out _ _ hv1;have ru:=ah hv1;have HD1:=ah hd1;clear hv1 hd1))
   have hb4:Below N w w4:=(D4.out.drew.trans HD1.out).trans HD2.out;have hv:=sH.out.tail;rw[<-pM.out]at hv;have HV:=ah hv;have HB4:=ah hb4;clear hv hb4;go_wp2;go_roundw
   case rel=>exact⟨i+1,by omega,by go_num,HV.out,HB4.out⟩
   case measure=>simp[intOf];omega
  ·obtain rfl:i=l.length:=by omega
   rw[List.take_length,List.append_assoc]at hws;have y9:=ah hws.tail;clear hws;go_wp2;go_end0;exact⟨rfl,y9.out,yA.out⟩
theorem write_any(c:Nat)(hl:c∈letters)(h:WS N w g bs keep)(hr:Room N w0 w bs x)(hw:dD x c=0):Calls Tryz.prog 228 #[.pointer (some ⟨g,0,none⟩),iE x,.int .i32 c] w (qy N w g (bs++gX x c) keep):=by
 by_cases h1:c=69
 ·subst h1;exact ace h hr hw
 by_cases h2:c=83
 ·subst h2;exact acf h hr hw
 by_cases h3:c=82
 ·subst h3;exact acg h hr hw
 exact SE c hl ⟨h1,h2,h3⟩ h hr hw
end
end gu
namespace gu
open aJ Ops yt Vn NV
theorem aeA{x:bD}(h:ou x=0):isKind x.k=true/\∀c∈partsOf x.k,dD x c=0:=by
 unfold ou at h;by_cases hk:isKind x.k=true
 ·rw[if_pos hk]at h;exact⟨hk,uS h⟩
 ·rw[if_neg hk]at h;cases h
theorem ach(w:World)(x:bD)(h:jd w x):Calls Tryz.prog 168 #[iE x] w fun e w'=>e=.returned (.tuple #[.string (Ef x),.int .i64 (ou x)])/\Kept aj w w':=by
 obtain⟨W0,hW0⟩:∃W0,w.alloc (.cells (aI x).toArray 45)=W0:=⟨_,rfl⟩;have hk0:Kept aj w W0:=by rw[<-hW0];(repeat'(first|(with_reducible first|exact ak|apply au|apply ay|apply aA|apply aB)|(right;simp;done)))
 have hn0:Has W0 w.heap.size 45 (aI x).toArray:=by rw[<-hW0];exact Has.new _ _ _
 have fC:=IX W0 x (h.kept hk0);have bf:=ah hk0;have dW:=ah hn0;have HX:=ah h;have hlt0:w.heap.size<W0.heap.size:=hn0.lt;clear hk0 hn0 h;by_cases hz:ou x=0;rotate_left
 ·have hr:Ef x=emp:=by unfold Ef;rw[if_neg hz]
  rw[hr];obtain⟨z,hz1⟩:∃z,ou x=z:=⟨_,rfl⟩;rw[hz1]at hz fC⊢;have hz2:(z !=0)=true:=by simpa using hz
  have HC:=ah fC;clear hr hz hz1 fC hlt0;go_enter Tryz.func168,Tryz.ntmps168;go_wp2_with (refine wpList_load_row rfl 45 (.tmp 1) rfl w.heap.size rfl 45 _ (0,0) _ dW.out Tryz.underlying45 rfl (by kernel_rfl) ?_);clear hW0;refine HC.out.mono ?_;rintro e w2 ⟨rfl,hk⟩;have HK:=ah (bf.out.then hk);clear hk;go_wp2;go_ret2;exact⟨rfl,HK.out⟩
 have hr:Ef x=bI (aaS x):=by unfold Ef;rw[if_pos hz]
 rw[hr];obtain⟨hkk,hwr⟩:=aeA hz;rw[hz]at fC⊢;have aci:1<=x.k/\x.k<=15:=of_decide_eq_true hkk;have hp:=fun W=>Lp W x.k hkk;have hlet:=DL x.k;have D5:=Xi x.k;have hpm:aaS x=put x.k.toNat++(partsOf x.k).flatMap (gX x):=rfl;rw[hpm];obtain⟨l,hl⟩:∃l,partsOf x.k=l:=⟨_,rfl⟩;rw[hl]at hp hlet D5 hwr⊢;obtain⟨k,hk⟩:∃k:Nat,x.k=k:=⟨x.k.toNat,by omega⟩;have hq:∀W,Has W w.heap.size 45 (aI x).toArray->W.cell? ⟨w.heap.size,0,none⟩=some (.int .i64 (k:Int)):=fun W hW=>by have h0:W.cell? ⟨w.heap.size,0,none⟩=some (.int .i64 x.k):=hW.cell 0;rw[hk]at h0;exact h0
 rw[hk]at hp aci⊢;rw[Int.toNat_natCast];have HC:=ah fC;have HP:=ah hp;have UM:=ah hlet;have Zi:=ah D5;have qU:=ah hwr;have HQ:=ah hq;have af5:=ah aci;have aiQ:=ah hlt0;clear fC hp hlet D5 hwr hq hz hr hkk hk hl hpm aci hlt0;have q0:=HQ.out _ dW.out;go_enter Tryz.func168,Tryz.ntmps168;go_wp2_with (refine wpList_load_row rfl 45 (.tmp 1) rfl w.heap.size rfl 45 _ (0,0) _ dW.out Tryz.underlying45 rfl (by kernel_rfl) ?_);clear hW0 q0;refine HC.out.mono ?_;rintro e w2 ⟨rfl,hk2⟩;have dV:=ah (dW.out.kept hk2 (fun z=>z));have aV:=ah (bf.out.then hk2);clear hk2;have q0:=HQ.out _ dV.out;go_wp2_with fail;clear q0;refine(HP.out _).mono ?_;rintro e w3 ⟨rfl,hk3⟩;have mG:=ah (dV.out.kept hk3 (fun z=>z));have bu:=ah (aV.out.then hk3);clear hk3;have c0:=HQ.out _ mG.out
 have hnew:∀W,Has W w.heap.size 45 (aI x).toArray->Calls Tryz.prog 112 #[] W fun e w'=>∃g,e=.returned (.pointer (some ⟨g,0,none⟩))/\WS W.heap.size w' g [] [(w.heap.size,.cells (aI x).toArray 45)]/\Kept aj W w':=
  fun W hW=>rV W _ (fun y hy=>by simp at hy;subst hy;exact hW)
 have gI:=ah hnew;clear hnew;go_wp2_with fail
 go_region_held3 (fun W=>W.cell? ⟨w.heap.size,0,none⟩=some (.int .i64 (k:Int))) (first|with_reducible exact q5|with_reducible exact q4|with_reducible exact c0|(simp[go_sem,c0];done))
  (first
   |(go_at_call 112;refine(gI.out _ (by exact mG.out)).mono ?_;rintro e w4 ⟨g,rfl,hw4,mJ⟩;have q4:=HQ.out _ (hw4.has (List.mem_singleton.2 rfl));have kW:=ah hw4;have mM:=ah mJ;clear hw4 mJ)
   |(go_at_call 113;refine(iI (by exact kW.out) k (by have:=af5.out;omega) (by simp)).mono ?_;rintro e w5 ⟨rfl,hw5,hb5⟩;have q5:=HQ.out _ (hw5.has (List.mem_singleton.2 rfl));have eF:=ah hw5;have jv:=ah hb5;clear hw5 hb5))
 have hk4:Kept aj w w4:=Kept.then (by(repeat'(first|(with_reducible first|exact ak|apply au|apply ay|apply aA|apply aB)|(with_reducible exact bu.out)|(right;simp;done)))) mM.out;have hle:w.heap.size<=w3.heap.size:=bu.out.size;have hk5:Kept aj w w5:=behind hk4 jv.out hle;have hw5:=eF.out;simp only[List.nil_append]at hw5;have hN:(w3.drewN 0).heap.size=w3.heap.size:=rfl;clear q4 q5 c0 kW eF jv mM hk4 gI HC HP hN;have eF:=ah hw5;have dB:=ah hk5;have jw:=ah hle;clear hw5 hk5 hle;have adE:=bH (n:=k) (by have:=af5.out;omega);have hne:put k≠[]:=by intro e;have h1:=put_pos k;rw[e]at h1;simp at h1
 have HH:=ah (And.intro adE hne);clear adE hne;go_wp2_with fail;go_loopg [] l.length (fun gf wx=>∃i:Nat,i<=l.length/\WS w3.heap.size wx g (put k++(l.take i).flatMap (gX x)) [(w5.heap.size,.stringIter (lets l) i),(w.heap.size,.cells (aI x).toArray 45)]/\Kept aj w wx/\l.length<=i+gf)
 case atStart=>exact⟨0,Nat.zero_le _,(by rw[List.take_zero,List.flatMap_nil,List.append_nil];exact eF.out.add (.stringIter (lets l) 0)),dB.out.alloc _,by omega⟩
 case round=>
  obtain⟨i,hi,hws,hk,hfu⟩:=hrel;have HK:=ah hk;clear hk;have hit:wr.heap[w5.heap.size]? =some (.stringIter (lets l) i):=hws.has (List.mem_cons_self ..);by_cases hil:i<l.length
  ·obtain⟨g',rfl⟩:∃g',gk=g'+1:=⟨gk-1,by omega⟩;obtain⟨c,hc⟩:∃c,l[i]? =some c:=⟨_,List.getElem?_eq_getElem hil⟩;have hci:l[i]=c:=by rw[List.getElem?_eq_getElem hil]at hc;exact Option.some.inj hc
   have hcm:=List.mem_of_getElem? hc;obtain⟨hps,hb,ha⟩:=Tt UM.out hc;have hnx:∀ty,(Instr.next (.pointer (some ⟨w5.heap.size,0,none⟩)) true ty).run Tryz.prog wr=_:=fun ty=>Lib.run_next_ascii_at wr w5.heap.size (lets l) i ty hit hps ha;rw[hb]at hnx;have h05:=JB (eF.out.has (List.mem_singleton.2 rfl));have hs2:=hws.iterAt (q:=i+1) (fun y hy=>by simp at hy;subst hy;dsimp only;dsimp only at h05;omega);have hk2:=Kept.iterAt HK.out (k:=w5.heap.size) (.inr dB.out.size) (lets l) (i+1);obtain⟨W,hWd⟩:∃W,wr.iterAt w5.heap.size (lets l) (i+1)=W:=⟨_,rfl⟩;rw[hWd]at hnx hs2 hk2;have hfl:=oI (gX x) (l.take i) 1100 (fun y hy=>Xj HX.out (qU.out y (List.mem_of_mem_take hy)));have hmin:(l.take i).length<=7:=by rw[List.length_take];have:=Zi.out;omega
   have hlen:(put k++(l.take i).flatMap (gX x)).length<=100000:=by rw[List.length_append];have:=HH.out.1;omega
   have hcall:=write_any (w0:=w) c (UM.out c hcm) hs2 ⟨HX.out,hk2,jw.out,hlen⟩ (qU.out c hcm);have iP:=qY (gX x) l i hil;rw[hci]at iP;rw[List.append_assoc,<-iP]at hcall;have DR:=ah hcall;have HS2:=ah hs2;have oq:=ah hk2;clear hcall hs2 hk2 hWd hb ha hps hit hc hci hcm hfl hmin hlen iP hws h05;go_wp2_with (refine wpList_load_row rfl 45 (.tmp 1) rfl w.heap.size rfl 45 _ (0,0) _ (HS2.out.has (x:=(w.heap.size,.cells (aI x).toArray 45)) (List.mem_cons_of_mem _ (List.mem_singleton.2 rfl))) Tryz.underlying45 rfl (by kernel_rfl) ?_);refine DR.out.mono ?_;rintro e w6 ⟨rfl,hs6,hb6⟩;have oZ:=ah hs6;have kQ:=ah (behind oq.out hb6 jw.out);clear hs6 hb6;go_wp2;go_roundg g'
   case measure=>omega
   case rel=>exact⟨i+1,by omega,oZ.out,kQ.out,by omega⟩
  ·obtain rfl:i=l.length:=by omega
   rw[List.take_length]at hws;have hps:¬l.length<(lets l).size:=by rw[Ei];omega
   have hnx:∀ty,(Instr.next (.pointer (some ⟨w5.heap.size,0,none⟩)) true ty).run Tryz.prog wr=_:=fun ty=>Lib.run_next_end_at wr w5.heap.size (lets l) l.length ty hit hps;obtain⟨R,hR⟩:∃R,put k++l.flatMap (gX x)=R:=⟨_,rfl⟩;rw[hR]at hws;have hne:R≠[]:=by rw[<-hR];have:=HH.out.2;simp;intro h;exact absurd h this
   have y9:=ah hws;have DK:=ah hne;have HR:=ah hR;clear hit hps hne hws hR;go_wp2_with fail;refine(pK y9.out DK.out).mono ?_;rintro e w6 ⟨rfl,hb6⟩;have kQ:=ah (behind HK.out hb6 jw.out);clear hb6;go_wp2;go_ret2;exact⟨by rw[HR.out];rfl,kQ.out⟩
end gu
end Go.Proofs.YtomccaocggplgaaGreat
namespace Go.Proofs.YtomccaocggplgaaGreat
open Go.RowKit
namespace bW
open aJ Vn Mst jQ IM kK
def gG(l:List aG):List ByteArray:=(l.filter fun x=>decide (aT x=0)).map lK
theorem Zj{l:List aG}{i:Nat}{x:aG}(h:l[i]? =some x):gG (l.take (i+1))=if aT x=0 then gG (l.take i)++[lK x]else gG (l.take i):=by
 obtain⟨hi,he⟩:=lD0.1 h;unfold gG;rw[List.take_succ_eq_append_getElem hi,he,List.filter_append,List.map_append];by_cases hp:aT x=0
 ·rw[if_pos hp,List.filter_cons,if_pos (decide_eq_true hp)];rfl
 ·rw[if_neg hp,List.filter_cons,if_neg (by simpa using hp)];simp
theorem JC(l:List aG):(gG l).length<=l.length:=by unfold gG;rw[List.length_map];exact List.length_filter_le _ _
theorem acj:Elem Tryz.prog 89 9 1 16:=⟨Tryz.underlying89,⟨_,_,rfl,rfl,rfl,rfl,rfl⟩,by decide⟩
def Zk(w:World)(l:List aG)(e:Ending)(w':World):Prop:=∃A c,e=.returned (.slice A (gG l).length c)/\aF 9 1 w.heap.size w' A (gG l).length c ((gG l).map Value.string)/\Kept aj w w'
attribute [local go_sem↓] vH
attribute [local go_sem] vI
theorem MI(w:World)(A0:Option Addr)(c0:Nat)(l:List aG)(hl:Src w 18 A0 l.length (xE l))(hlen:l.length<=1000)(hx:∀x∈l,iR w x/\NU x):
  Calls Tryz.prog 63 #[.slice A0 l.length c0] w (Zk w l):=by
 have HL:=ah hl;have HX:=ah hx;clear hl hx;go_enter Tryz.func63,Tryz.ntmps63;go_wp2_with fail;go_loopw [3,10] (fun v3 v10 wr=>∃(i:Nat) (A:Option Addr) (c:Nat),i<=l.length/\v10=.int .i64 i/\v3=.slice A (gG (l.take i)).length c/\aF 9 1 w.heap.size wr A (gG (l.take i)).length c ((gG (l.take i)).map Value.string)/\Kept aj w wr) (fun _ v10 _=>l.length-(intOf v10).toNat)
 case atStart=>exact⟨0,none,0,Nat.zero_le _,rfl,rfl,aF.nil _ _ _ _,Kept.refl _ _⟩
 case round=>
  obtain⟨i,A,c,hi,rfl,rfl,hr,hk⟩:=hrel;by_cases hil:i<l.length
  ·obtain⟨x,hx⟩:∃x,l[i]? =some x:=⟨_,lB0 hil⟩;obtain⟨hok,hu⟩:=HX.out x (lC0 hx);have hput:=fun W (hW:Kept aj wr W)=>OH ((hok.kept hk).kept hW) hu;obtain⟨ad,rfl,had,hc⟩:=U6 (HL.out.kept hk (fun _ _ z=>z)) (by omega) i x hx;obtain⟨u1,u2⟩:=MW rfl hc;have hs:=Zj hx;have hb1:=JC (l.take i);have hb2:(l.take i).length<=1000:=by rw[List.length_take];omega
   obtain⟨T,hT⟩:∃T,gG (l.take i)=T:=⟨_,rfl⟩;obtain⟨z,hz⟩:∃z,aT x=z:=⟨_,rfl⟩;obtain⟨s,hs2⟩:∃s,lK x=s:=⟨_,rfl⟩;rw[hT]at hs hr hb1⊢;rw[hz]at hs hput;rw[hs2]at hs hput;have VB:∀W,Kept aj wr W->Calls Tryz.prog 56 #[.agg (aK x).toArray] W fun e w'=>e=.returned (.tuple #[.string s,.int .i64 z])/\Kept aj W w':=hput;have HS:=ah hs;have HR:=ah hr;have HK:=ah hk;have gU:Hid (T.length+1<=maxLen):=ah (by unfold maxLen;omega);have iT:Hid ((T.length+1)*16<=140737488355328):=ah (by omega);clear hs hr hk hz hs2 hT hput hok hu hx hc hb1 hb2;obtain⟨k,n,at2,ep,xw,xx,ms,fl,lA2,xA,lg,oA,oc,⟨ji,gK,ops⟩,ts,⟨p1,p2,p3⟩,⟨s1,s2,s3,s4⟩⟩:=x;simp only[aK]at VB u2;have HP:=ah VB;clear VB;by_cases h0:z=0
   ·subst h0;have hs1:=HS.out;rw[if_pos rfl]at hs1;have EY:=ah hs1;clear hs1 HS;go_wp2_with (refine wpList_load_row rfl 78 (.tmp 5) rfl wr.heap.size rfl 78 _ (0,0) _ (Has.new _ _ _) Tryz.underlying78 rfl (by kernel_rfl) ?_);refine(HP.out _ (by(repeat'(first|(with_reducible first|exact ak|apply au|apply ay|apply aA|apply aB)|(right;simp;done))))).mono ?_;rintro e w4 ⟨rfl,hk4⟩;have eY:=ah (Kept.then (F:=aj) (a:=wr) (by(repeat'(first|(with_reducible first|exact ak|apply au|apply ay|apply aA|apply aB)|(right;simp;done)))) hk4);clear hk4 u1 u2;go_wp2_with (at_builtin;refine aN acj (.tmp 21) (.tmp 23) rfl rfl (Value.slice A T.length c) rfl (aC (aC HR.out.1 eY.out (fun _ _ x=>x)) (F:=aj) (by(repeat'(first|(with_reducible first|exact ak|apply au|apply ay|apply aA|apply aB)|(right;simp;done)))) (fun _ _ x=>x)) 1 rfl (Src.dA (t:=9) (size:=1) (m:=1) (cs:=#[.string s]) (by(repeat (with_reducible first|exact Has.bK _ _ _ (by simp)|apply Has.drew|apply Has.drewN|apply Has.alloc|(apply Has.past<;>(try omega))))) rfl) (by simp[Value.oneCell']) gU.out iT.out ?_;intro A1 c1 w9 ho1 hg1 ha1;have hpush:=aF.pushed HR.out (by(repeat'(first|(with_reducible first|exact ak|apply au|apply ay|apply aA|apply aB)|(exact HK.out.then eY.out)|(right;simp;done)))) ho1 hg1 ha1;have HPU:=ah hpush;clear ho1 hg1 ha1 hpush);go_roundw
    case rel=>exact⟨i+1,A1,c1,by omega,by go_num,by rw[EY.out,lA0];rfl,by rw[EY.out,lA0,List.map_append];exact HPU.out.1,HPU.out.2⟩
    case measure=>simp[intOf];omega
   ·have hs1:=HS.out;rw[if_neg h0]at hs1;have EY:=ah hs1;clear hs1 HS;have h2:(z==0)=false:=by simpa using h0
    clear h0;go_wp2_with (refine wpList_load_row rfl 78 (.tmp 5) rfl wr.heap.size rfl 78 _ (0,0) _ (Has.new _ _ _) Tryz.underlying78 rfl (by kernel_rfl) ?_);refine(HP.out _ (by(repeat'(first|(with_reducible first|exact ak|apply au|apply ay|apply aA|apply aB)|(right;simp;done))))).mono ?_;rintro e w4 ⟨rfl,hk4⟩;have eY:=ah (HK.out.then (Kept.then (F:=aj) (a:=wr) (by(repeat'(first|(with_reducible first|exact ak|apply au|apply ay|apply aA|apply aB)|(right;simp;done)))) hk4));have uk:=ah (Kept.then (F:=aj) (a:=wr) (by(repeat'(first|(with_reducible first|exact ak|apply au|apply ay|apply aA|apply aB)|(right;simp;done)))) hk4);clear hk4 u1 u2;go_wp2;go_roundw
    case rel=>exact⟨i+1,A,c,by omega,by go_num,by rw[EY.out],by rw[EY.out];exact HR.out.kept uk.out,eY.out⟩
    case measure=>simp[intOf];omega
  ·obtain rfl:i=l.length:=by omega
   rw[List.take_length]at hr⊢;have HR:=ah hr;have HK:=ah hk;clear hr hk;go_wp2;go_ret;exact⟨A,c,rfl,HR.out,HK.out⟩
theorem aeB:Elem Tryz.prog 57 237 2 24:=⟨Tryz.underlying57,⟨_,_,rfl,rfl,rfl,rfl,rfl⟩,by decide⟩
theorem SG(l:List AZ)(o:AZ):vF (l++[o])=vF l++[.int .i64 o.to,.string o.body]:=by unfold vF;rw[List.flatMap_append];rfl
open gu in
def iC(M:MR)(to:Int)(x:bD):MR:=if ou x=0 then {M with out:=M.out++[⟨to,Ef x⟩]}else M
def dK(w:World)(X:MX)(M:MR)(c:Nat)(v:Value)(M':MR)(d:Nat)(e:Ending)(w':World):Prop:=e=.returned v/\∃X',Step w X M w' X' M'/\dG X' M'.lg (c+d)
section
variable{w w':World}{X X0:MX}{M M0:MR}{c:Nat}
open gu in
theorem P8(h:dJ w X M)(hb:dG X M.lg c)(ho:M.out.length<=1000)(to:Int)(x:bD)(hx:jd w x):
  Calls Tryz.prog 95 #[.pointer (some ⟨X.mb,0,none⟩),.int .i64 to,iE x] w (dK w X M c (.tuple #[]) (iC M to x) 0):=by
 obtain⟨W0,hW0⟩:∃W0,w.alloc (.cells (aI x).toArray 45)=W0:=⟨_,rfl⟩;have hk0:Kept aj w W0:=by rw[<-hW0];(repeat'(first|(with_reducible first|exact ak|apply au|apply ay|apply aA|apply aB)|(right;simp;done)))
 have hn0:Has W0 w.heap.size 45 (aI x).toArray:=by rw[<-hW0];exact Has.new _ _ _
 have hput:=ach W0 x (hx.kept hk0);have hbad:ou x≠0->∀W,Kept aj w W->dK w X M c (.tuple #[]) (iC M to x) 0 (.returned (.tuple #[])) W:=fun h0 W hW=>by have e1:iC M to x=M:=if_neg h0;rw[e1];exact⟨rfl,X,Step.refl h hW,hb⟩
 have hS:ou x=0->iC M to x={M with out:=M.out++[⟨to,Ef x⟩]}:=fun h0=>if_pos h0;obtain⟨z,hz⟩:∃z,ou x=z:=⟨_,rfl⟩;obtain⟨s,hs⟩:∃s,Ef x=s:=⟨_,rfl⟩;rw[hz]at hput hbad hS;rw[hs]at hput hS;have HP:=ah hput;have HN:=ah hn0;have bf:=ah hk0;have HBAD:=ah hbad;have HS:=ah hS;have H:=ah h;have HB:=ah hb;clear hput hn0 hk0 hbad hS h hb hx hz hs;by_cases h0:z=0;rotate_left
 ·have h2:(z==0)=false:=by simpa using h0
  have HBD:=ah (HBAD.out h0);clear h0 HBAD;go_enter Tryz.func95,Tryz.ntmps95;go_wp2_with (refine wpList_load_row rfl 45 (.tmp 5) rfl w.heap.size rfl 45 _ (0,0) _ HN.out Tryz.underlying45 rfl (by kernel_rfl) ?_);clear hW0;refine HP.out.mono ?_;rintro e w2 ⟨rfl,hk⟩;have HF:=ah (HBD.out _ (bf.out.then hk));clear hk;go_wp2;go_end0;exact HF.out
 ·subst h0;rw[HS.out rfl];have gU:Hid (M.out.length+1<=maxLen):=ah (by unfold maxLen;omega);have iT:Hid ((M.out.length+1)*24<=140737488355328):=ah (by omega);clear HBAD HS;go_enter Tryz.func95,Tryz.ntmps95;go_wp2_with (refine wpList_load_row rfl 45 (.tmp 5) rfl w.heap.size rfl 45 _ (0,0) _ HN.out Tryz.underlying45 rfl (by kernel_rfl) ?_);clear hW0;refine HP.out.mono ?_;rintro e w2 ⟨rfl,hk⟩;have hm2:=H.out.quiet (bf.out.then hk);have oq:=ah (bf.out.then hk);clear hk;have q:w2.cell? ⟨X.mb,11,none⟩=some (.slice X.oA M.out.length X.oc):=Has.cell (hm2.c 0) 11;have hrow:w2.ownsRow 0 237 2 (.slice X.oA M.out.length X.oc) M.out.length (vF M.out):=hm2.c 10;have bZ:=ah hrow;have HM:=ah hm2;clear hrow hm2;have hmb:X.mb<w2.heap.size:=(HM.out.c 0).lt rfl;go_wp2_with (at_builtin;refine aN aeB (.tmp 19) (.tmp 23) rfl rfl (Value.slice X.oA M.out.length X.oc) rfl (aC bZ.out (F:=aj) (by(repeat'(first|(with_reducible first|exact ak|apply au|apply ay|apply aA|apply aB)|(right;simp;done)))) (fun _ _ x=>x)) 1 rfl (Src.dA (t:=237) (size:=2) (m:=1) (cs:=#[.int .i64 to,.string s]) (by(repeat (with_reducible first|exact Has.bK _ _ _ (by simp)|apply Has.drew|apply Has.drewN|apply Has.alloc|(apply Has.past<;>(try omega))))) rfl) (by simp[Value.oneCell']) gU.out iT.out ?_;intro A1 c1 w9 ho1 hg1 ha1;have hk9:Kept (fun k=>(Value.slice X.oA M.out.length X.oc).ownBlock=some k) w2 w9:=Kept.grownBy (by(repeat'(first|(with_reducible first|exact ak|apply au|apply ay|apply aA|apply aB)|(right;simp;done)))) hg1 (fun k hk=> .inl hk);have hf9:Has w9 X.mb 85 (wI X M):=Has.kept (HM.out.c 0) hk9 (fun e=>absurd (HM.out.ap 0 10 _ rfl e) (by decide));have f9:=hf9.frozen 11;have d9:=hf9.cell 11;have HO:=ah ho1;have HA:=ah ha1;have nH:=ah hk9;clear ho1 hg1 ha1 hk9 hf9);go_end0;have hlen:(M.out++[(⟨to,s⟩:AZ)]).length=M.out.length+1:=by simp
  have hstep:=Step.afV (ws:=w) (X0:=X) (M0:=M) (w:=w2) (Step.refl H.out oq.out) (w9:=w9) (A:=A1) (c:=c1) (l:=M.out++[⟨to,s⟩]) (by rw[hlen,SG];exact HO.out) nH.out (fun k hk=>by
   rw[hlen]at hk;rcases HA.out with e|e
   ·exact .inl (e.symm.trans hk)
   ·have h9:=e.symm.trans hk;injection h9 with h9;simp at h9;exact .inr (by omega))
  rw[hlen]at hstep;exact⟨rfl,_,hstep,⟨HB.out.n,HB.out.f,HB.out.l,HB.out.hd⟩⟩
end
end bW
namespace bW
open aJ Vn Mst jQ IM kK gu
def wK(s:bQ)(A:Option Addr)(c:Nat):bD:=⟨1,0,0,0,false,s.hz,0,0,0,0,0,⟨#[]⟩,⟨#[]⟩,s.ep,A,c,s.ms,s.fl,0,0,none,0,[],none,0,[],none,0,[],none,0,[]⟩
structure SU(s:bQ):Prop where
 hz:0<=s.hz/\s.hz<=aW
 fl:0<=s.fl/\s.fl<=aW
 pin:∀p∈s.pins,0<=p.at'/\p.at'<=aW
theorem VC{w:World}{s:bQ}{A:Option Addr}{c:Nat}(hs:Src w 2 A s.ms.length (aU s.ms))(hc:s.ms.length<=c)(hok:pY s)(hu:SU s):jd w (wK s A c):=
 ⟨hs,hc,hok.m,Src.nil _ _ _,Src.nil _ _ _,(fun y hy=>by cases hy),Nat.zero_le _,Src.nil _ _ _,Nat.zero_le _,(fun y hy=>by cases hy),Src.nil _ _ _,Nat.zero_le _,⟨hu.hz,⟨Int.le_refl 0,by show(0:Int)<=aW;decide⟩,hu.fl⟩⟩
def jW(M:MR)(to:Int):MR:=iC M to (wK M.st none 0)
section
variable{w w':World}{X X0:MX}{M M0:MR}{c:Nat}
theorem EZ(h:dJ w X M)(hb:dG X M.lg c)(ho:M.out.length<=1000)(hok:pY M.st)(hu:SU M.st)(to:Int):
  Calls Tryz.prog 44 #[.pointer (some ⟨X.mb,0,none⟩),.int .i64 to] w (dK w X M c (.tuple #[]) (jW M to) 0):=by
 have hq:∀W,Kept aj w W->W.cell? ⟨X.mb,2,none⟩=some (.pointer (some ⟨X.sb,0,none⟩)):=fun W hW=>Has.cell ((h.quiet hW).c 0) 2;have oP:∀W,Kept aj w W->Calls Tryz.prog 34 #[.pointer (some ⟨X.sb,0,none⟩)] W (uy W M.st.ep M.st.fl M.st.ms):=fun W hW=>qO ((h.quiet hW).c 2) hok;have zD:∀W,Kept aj w W->Calls Tryz.prog 24 #[.pointer (some ⟨X.sb,0,none⟩)] W fun e w'=>e=.returned (.int .u64 M.st.hz)/\Kept aj W w':=fun W hW=>yG ((h.quiet hW).c 2);have hsend:∀W A d,Kept aj w W->Src W 2 A M.st.ms.length (aU M.st.ms)->M.st.ms.length<=d->Calls Tryz.prog 95 #[.pointer (some ⟨X.mb,0,none⟩),.int .i64 to,iE (wK M.st A d)] W fun e w'=>dK w X M c (.tuple #[]) (jW M to) 0 e w':=fun W A d hW hs hd=>by refine(P8 (h.quiet hW) hb ho to (wK M.st A d) (VC hs hd hok hu)).mono ?_;rintro e w' ⟨rfl,X',hs,hl⟩;exact⟨rfl,X',(Step.refl h hW).trans hs,hl⟩
 have hpost:∀e W,dK w X M c (.tuple #[]) (jW M to) 0 e W->e=.returned (.tuple #[])/\W.cell? ⟨X.mb,2,none⟩=some (.pointer (some ⟨X.sb,0,none⟩))\/True:=fun e W _=> .inr trivial;have HQ:=ah hq;have HC:=ah oP;have HH:=ah zD;have zC:=ah hsend;clear hq oP zD hsend hpost h hb ho hok hu;obtain⟨MM,hMM⟩:∃MM,jW M to=MM:=⟨_,rfl⟩;rw[hMM]at zC⊢;clear hMM;have hs1:∀W A d,Kept aj w W->Src W 2 A M.st.ms.length (aU M.st.ms)->M.st.ms.length<=d->Calls Tryz.prog 95 #[.pointer (some ⟨X.mb,0,none⟩),.int .i64 to,.agg (aI (wK M.st A d)).toArray] W fun e w'=>dK w X M c (.tuple #[]) MM 0 e w':=zC.out;simp only[wK,aI,List.length_nil]at hs1;have HS:=ah hs1;clear hs1 zC;obtain⟨ms,hms⟩:∃ms,M.st.ms=ms:=⟨_,rfl⟩;obtain⟨hz,hhz⟩:∃hz,M.st.hz=hz:=⟨_,rfl⟩;obtain⟨ep,mP⟩:∃ep,M.st.ep=ep:=⟨_,rfl⟩;obtain⟨fl,hfl⟩:∃fl,M.st.fl=fl:=⟨_,rfl⟩;rw[hms,mP,hfl]at HC;rw[hhz]at HH;rw[hms,hhz,mP,hfl]at HS;clear hms hhz mP hfl;have z0:=HQ.out w (Kept.refl _ _);go_enter Tryz.func44,Tryz.ntmps44;go_wp2_with fail
 go_region_held3 (fun W=>W.cell? ⟨X.mb,2,none⟩=some (.pointer (some ⟨X.sb,0,none⟩))) (first|with_reducible exact z3|with_reducible exact z2|with_reducible exact z1|with_reducible exact z0|(simp[go_sem,z0];done))
  (first
   |(have hx:=gB;clear hx;go_at_call 24;refine(HH.out _ (by(repeat'(first|(with_reducible first|exact ak|apply au|apply ay|apply aA|apply aB)|(exact gB.out)|(right;simp;done))))).mono ?_;rintro e w2 ⟨rfl,hk2⟩;have hk:=Kept.then (F:=aj) (a:=w) (by(repeat'(first|(with_reducible first|exact ak|apply au|apply ay|apply aA|apply aB)|(exact gB.out)|(right;simp;done)))) hk2;have z2:=HQ.out _ hk;have HR2:=ah (aF.kept (aF.kept HR.out (by(repeat'(first|(with_reducible first|exact ak|apply au|apply ay|apply aA|apply aB)|(right;simp;done))))) hk2);have aV:=ah hk;clear hk hk2)
   |(go_at_call 34;refine(HC.out _ (by(repeat'(first|(with_reducible first|exact ak|apply au|apply ay|apply aA|apply aB)|(right;simp;done))))).mono ?_;rintro e w1 ⟨A,d,rfl,hr,hk1⟩;have hk:=Kept.then (F:=aj) (a:=w) (by(repeat'(first|(with_reducible first|exact ak|apply au|apply ay|apply aA|apply aB)|(right;simp;done)))) hk1;have z1:=HQ.out _ hk;have HR:=ah hr;have gB:=ah hk;clear hk hk1 hr)
   |(go_at_call 95;refine(HS.out _ A d (by(repeat'(first|(with_reducible first|exact ak|apply au|apply ay|apply aA|apply aB)|(exact aV.out)|(right;simp;done)))) (Src.bF (aC HR2.out.1 (F:=aj) (by(repeat'(first|(with_reducible first|exact ak|apply au|apply ay|apply aA|apply aB)|(right;simp;done)))) (fun _ _ z=>z))) (gJ HR2.out.1).1).mono ?_;rintro e w3 ⟨rfl,X',hst,hl⟩;have z3:w3.cell? ⟨X.mb,2,none⟩=some (.pointer (some ⟨X.sb,0,none⟩)):=(by have h1:w3.cell? ⟨X'.mb,2,none⟩=some (.pointer (some ⟨X'.sb,0,none⟩)):=Has.cell (hst.at'.c 0) 2;rw[hst.mb,hst.sb]at h1;exact h1);have HP:=ah (And.intro hst hl);clear hst hl))
 clear z0 z1 z2 z3;go_end0;exact⟨rfl,X',HP.out.1,HP.out.2⟩
end
end bW
namespace Mst
open aJ Vn Go.Sort
theorem rJ:Elem Tryz.prog 117 78 18 192:=by obtain⟨i0,hi,hz0,hz1,hz2⟩:=info_parts (show(Tryz.prog.info? 78).map (fun i=>(i.zero,i.size,i.bytes))=some (some (.agg #[.int .i64 0,.int .i64 0,.int .u64 0,.int .i64 0,.slice none 0 0,.int .u64 0,.slice none 0 0,.int .i64 0,.int .i64 0,.slice none 0 0,.int .u64 0,.int .i64 0,.int .u64 0,.int .i64 0,.int .i64 0,.int .i64 0,.int .i64 0,.int .i64 0]),18,192) by kernel_rfl);exact⟨Tryz.underlying117,⟨i0,_,hi,hz0,hz1,hz2,rfl⟩,by decide⟩
theorem qj(x:aG):∀u∈aK x,u.oneCell'=true:=by intro u hu;simp[aK]at hu;rcases hu with rfl|rfl|rfl|rfl|rfl|rfl|rfl|rfl|rfl|rfl|rfl|rfl|rfl|rfl|rfl|rfl|rfl|rfl<;>rfl
theorem SH(l:List aG)(x:aG):xE (l++[x])=xE l++aK x:=by simp[xE]
def zn:aG:=⟨0,0,0,0,none,0,[],0,none,0,[],none,0,⟨0,0,[]⟩,0,⟨0,0,0⟩,⟨0,0,0,0⟩⟩
def mZ(s:bQ)(A:Option Addr)(c:Nat)(B:Option Addr)(d:Nat):aG:={zn with k:=1,ep:=s.ep,mA:=A,mc:=c,ms:=s.ms,fl:=s.fl,lA:=B,lc:=d,lg:=s.lg}
def iD(p:aO):aG:={zn with k:=6,pin:=p}
def wU(n:Int):aG:={zn with k:=7,n:=n}
def eH(h:Int):aG:={zn with k:=4,at':=h}
def ng(a:kP):aG:={zn with k:=8,said:=a}
def jZ(s:bQ):List aG:=if s.pins.any (fun p=>decide (p.id=s.top))=true then []else [wU s.top]
def iW(s:bQ):List kP:=[s.t0,s.t1,s.t2]
def dM(l:List kP):List aG:=(l.filter fun a=>decide (a≠jV)).map ng
def yI(w:World)(s:bQ)(pre:List aG):Prop:=(pre=[]/\¬0<s.ep)\/(0<s.ep/\∃A c B d,pre=[mZ s A c B d]/\w.ownsRow 0 56 2 (.slice A s.ms.length c) s.ms.length (aU s.ms)/\w.ownsRow 0 3 1 (.slice B s.lg.length d) s.lg.length (ints s.lg))
theorem yI.row{w w':World}{s:bQ}{pre:List aG}{v:Value}{n:Nat}{xs:List Value}(h:yI w s pre)(ho:w.ownsRow 0 78 18 v n xs)(hk:Kept (RowOf v) w w'):yI w' s pre:=by
 rcases h with h|⟨h0,A,c,B,d,h1,h2,h3⟩
 ·exact .inl h
 ·refine .inr ⟨h0,A,c,B,d,h1,aC h2 hk (fun g hg hr=> ?_),aC h3 hk (fun g hg hr=> ?_)⟩
  ·obtain⟨cs,hh⟩:=jT ho hr;exact own_ne h2 hh (by decide) hg
  ·obtain⟨cs,hh⟩:=jT ho hr;exact own_ne h3 hh (by decide) hg
structure kZ(w0:World)(s:bQ)(w:World)(pre l:List aG)(A:Option Addr)(c:Nat):Prop where
 own:w.ownsRow 0 78 18 (.slice A l.length c) l.length (xE l)
 new:∀k,RowOf (.slice A l.length c) k->w0.heap.size<=k
 pre:yI w s pre
 kept:Kept aj w0 w
theorem kZ.still{w0 w w':World}{s:bQ}{pre l:List aG}{A:Option Addr}{c:Nat}(h:kZ w0 s w pre l A c)(hk:Kept aj w w'):kZ w0 s w' pre l A c:=
 ⟨aC h.own hk (fun _ _ z=>z),h.new,h.pre.row h.own (Kept.up hk),h.kept.then hk⟩
theorem kZ.push{w0 w W w':World}{s:bQ}{pre l:List aG}{A A1:Option Addr}{c c1:Nat}(x:aG)(h:kZ w0 s w pre l A c)(hW:Kept aj w W)
  (ho:w'.ownsRow 0 78 18 (.slice A1 (l.length+1) c1) (l.length+1) (xE l++aK x)) (hg:W.grownBy w' (Value.slice A l.length c).ownBlock)
  (ha:(Value.slice A1 (l.length+1) c1).ownBlock=(Value.slice A l.length c).ownBlock\/(Value.slice A1 (l.length+1) c1).ownBlock=some W.heap.size):kZ w0 s w' pre (l++[x]) A1 c1:=by
 have h2:=h.still hW;refine⟨?_,?_,?_,?_⟩
 ·rw[SH,lA0];exact ho
 ·intro k hk;rw[lA0]at hk;rcases ha with e|e
  ·exact h.new k (e.symm.trans hk)
  ·have h9:=e.symm.trans hk;injection h9 with h9;have:=h2.kept.size;omega
 ·exact h2.pre.row h2.own (Kept.grown (Kept.refl _ _) hg (fun k hk=> .inl hk))
 ·exact h2.kept.grown hg (fun k hk=> .inr (h2.new k hk))
theorem VD(w:World)(p:aO)(g b:Nat)(s:bQ)(mA:Option Addr)(mc:Nat)(lA:Option Addr)(lc:Nat)(pA:Option Addr)(pc:Nat)(hg:Has w g 79 #[.pointer (some ⟨b,0,none⟩)])(hb:Has w b 121 (dL s mA mc lA lc pA pc true)):
  Calls Tryz.prog 126 #[CJ p,.pointer (some ⟨g,0,none⟩)] w fun e w'=>e=.returned (.bool (decide (p.id=s.top)))/\Kept aj w w':=by
 obtain⟨p1,p2,p3⟩:=p;obtain⟨W0,hW0⟩:∃W0,w.alloc (.cells #[.int .i64 p1,.int .u64 p2,.int .i64 p3] 53)=W0:=⟨_,rfl⟩;have hk0:Kept aj w W0:=by rw[<-hW0];(repeat'(first|(with_reducible first|exact ak|apply au|apply ay|apply aA|apply aB)|(right;simp;done)))
 have hn0:Has W0 w.heap.size 53 #[.int .i64 p1,.int .u64 p2,.int .i64 p3]:=by rw[<-hW0];exact Has.new _ _ _
 have c0:W0.cell? ⟨w.heap.size,0,none⟩=some (.int .i64 p1):=hn0.cell 0;have c1:W0.cell? ⟨g,0,none⟩=some (.pointer (some ⟨b,0,none⟩)):=(hg.kept hk0 (fun z=>z)).cell 0;have c6:W0.cell? ⟨b,6,none⟩=some (.int .i64 s.top):=(hb.kept hk0 (fun z=>z)).cell 6;have bf:=ah hk0;clear hn0 hg hb hk0;go_enter Tryz.func126,Tryz.ntmps126;go_wp2_with fail;clear hW0;go_quiet (fail);go_wp2;go_ret;exact⟨rfl,bf.out.drewN _⟩

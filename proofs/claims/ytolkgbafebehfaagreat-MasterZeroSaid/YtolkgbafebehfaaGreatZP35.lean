/- Part 36 of what the proof needs. -/
import Derived.Test.YtolkgbafebehfaaGreatZP34
set_option linter.unusedSimpArgs false
set_option linter.unusedVariables false
set_option maxHeartbeats 32000000
set_option maxRecDepth 100000
namespace Go.Proofs.YtolkgbafebehfaaGreat
open Go.RowKit Go.Shelf
set_option maxRecDepth 100000
namespace gX
open aP Ops zY Vn Ih
theorem Ud{w:World}{A:Option Addr}{m:Nat}{l:List Int}(h:Src w 1 A m (uM l))(hm:0<m)(i:Nat)(x:Int)(hx:l[i]? =some x):
  ∃ad,A=some ad/\ad.block<w.heap.size/\w.cell? (ad.add i)=some (.int .u64 x):=by
 obtain⟨ad,rfl,had,hcell⟩:=h.2 hm
 exact⟨ad,rfl,had,hcell i _ (by unfold uM;rw[List.getElem?_map,hx];rfl)⟩
section
variable{N:Nat}{w w0:World}{g:Nat}{bs:List UInt8}{keep:List KB}{x:bH}
theorem MU(c:Nat)(hl:c∈letters)(hn:c≠69/\c≠83/\c≠82)(h:WS N w g bs keep)(hr:Room N w0 w bs x)(hw:bU x c=0):Calls Tryz.prog 340 #[.pointer (some ⟨g,0,none⟩),eH x,.int .i32 c] w (og N w g (bs++fC x c) keep):=by
 obtain⟨W0,hW0⟩:∃W0,w.alloc (.cells (aG x).toArray 46)=W0:=⟨_,rfl⟩
 have hs0:WS N W0 g bs ((w.heap.size,.cells (aG x).toArray 46)::keep):=by rw[<-hW0];exact h.add _
 have hb0:Below N w W0:=by rw[<-hW0];exact iF h _
 have hk0:Kept aj w W0:=by rw[<-hW0];(repeat'(first|(with_reducible first|exact ak|apply au|apply ay|apply aA|apply aB)|(right;simp;done)))
 have hn0:Has W0 w.heap.size 46 (aG x).toArray:=hs0.has (List.mem_cons_self ..)
 have hcall:=Uc c hl hn hs0 (w0:=w0) ⟨hr.x,hr.k.then hk0,hr.n,hr.len⟩ hw
 have HC:=ah hcall;have HB:=ah hb0;have dw:=ah hn0
 have g1:((c:Int)==69)=false:=by simpa using(by omega:(c:Int)≠69)
 have g2:((c:Int)==83)=false:=by simpa using(by omega:(c:Int)≠83)
 have g3:((c:Int)==82)=false:=by simpa using(by omega:(c:Int)≠82)
 clear hn hl hw h hr hs0 hk0 hn0 hb0 hcall
 obtain⟨ci,hci⟩:∃ci:Int,(c:Int)=ci:=⟨_,rfl⟩
 rw[hci]at g1 g2 g3 HC⊢
 clear hci
 go_enter Tryz.func340,Tryz.ntmps340
 go_wp2_with (refine wpList_load_row rfl 46 (.tmp 4) rfl w.heap.size rfl 46 _ (0,0) _ dw.out Tryz.underlying46 rfl (by kernel_rfl) ?_)
 clear hW0
 refine HC.out.mono ?_
 rintro e w3 ⟨rfl,hs3,hb3⟩
 have kD:=ah hs3.tail;have HB3:=ah (HB.out.trans hb3);clear hs3 hb3
 go_wp2
 go_end0
 exact⟨rfl,kD.out,HB3.out⟩
theorem Xi(h:WS N w g bs keep)(hr:Room N w0 w bs x)(hw:bU x 69=0):Calls Tryz.prog 340 #[.pointer (some ⟨g,0,none⟩),eH x,.int .i32 ((69:Nat):Int)] w (og N w g (bs++fC x 69) keep):=by
 have hE:fC x 69=put x.es.length++x.es.flatMap fun y:kF=>dD (lQ y):=rfl
 rw[hE]
 obtain⟨W0,hW0⟩:∃W0,w.alloc (.cells (aG x).toArray 46)=W0:=⟨_,rfl⟩
 have hs0:WS N W0 g bs ((w.heap.size,.cells (aG x).toArray 46)::keep):=by rw[<-hW0];exact h.add _
 have hb0:Below N w W0:=by rw[<-hW0];exact iF h _
 have hsl:∀W b,WS N W g b ((w.heap.size,.cells (aG x).toArray 46)::keep)->W.cell? ⟨w.heap.size,19,none⟩=some (.slice x.eA x.es.length x.ec):=fun W b hW=>Has.cell (t:=46) (hW.has (List.mem_cons_self ..)) 19
 have hn:x.es.length<=4:=by
  by_cases hr:4<x.es.length
  ·have hw2:(if 4<x.es.length then (6:Int)else dI (fun y=>Ops.chk (mV y)) x.es)=0:=hw
   rw[if_pos hr]at hw2;cases hw2
  ·omega
 have hlen:=hr.len
 have HR:=ah hr;have HN:=ah hn;have jW:=ah hlen;have uX:=ah hsl;have HW:=ah hw
 clear hn hlen hr h hE hsl hw
 obtain⟨l,hl⟩:∃l,x.es=l:=⟨_,rfl⟩
 rw[hl]at HN uX⊢
 obtain⟨A,hA⟩:∃A,x.eA=A:=⟨_,rfl⟩
 rw[hA]at uX
 have q:=uX.out _ _ hs0
 have HL:=ah hl;have HA:=ah hA
 have wK:=ah hs0;have HB0:=ah hb0
 clear hs0 hb0 hl hA
 go_enter Tryz.func340,Tryz.ntmps340
 go_wp2_with fail
 clear hW0
 refine(fJ wK.out l.length (by have:=HN.out;omega) (by have:=jW.out;omega)).mono ?_
 rintro e w3 ⟨rfl,hs3,hb3⟩
 have q3:=uX.out _ _ hs3
 have kD:=ah hs3;have HB3:=ah (HB0.out.trans hb3);clear hs3 hb3
 go_wp2
 have heo:∀y∈l,0<=y.ts/\y.ts<=aT:=fun y hy=>(HR.out.x.eo y (by rw[HL.out];exact hy)).2
 have Kt:=ah heo;clear heo
 go_loopw [29] (fun v wr=>∃i:Nat,i<=l.length/\v=.int .i64 i/\WS N wr g (bs++put l.length++(l.take i).flatMap (fun y:kF=>dD (lQ y))) ((w.heap.size,.cells (aG x).toArray 46)::keep)/\Below N w wr) (fun v _=>l.length-(intOf v).toNat)
 case atStart=>exact⟨0,Nat.zero_le _,rfl,by simpa using kD.out,HB3.out⟩
 case round=>
  obtain⟨i,hi,rfl,hws,hbw⟩:=hrel
  have uZ:=ah hbw;clear hbw
  have hkw:=behind HR.out.k uZ.out HR.out.n
  have oC:=ah hkw;clear hkw
  have hnl:=HN.out
  by_cases hil:i<l.length
  ·obtain⟨y,hy⟩:∃y,l[i]? =some y:=⟨_,List.getElem?_eq_getElem hil⟩
   have hyi:l[i]=y:=by rw[List.getElem?_eq_getElem hil]at hy;exact Option.some.inj hy
   have hym:=List.mem_of_getElem? hy
   have gG:=oZ (fun y:kF=>dD (lQ y)) l i hil
   rw[hyi]at gG
   have hfl:=lS (fun y:kF=>dD (lQ y)) (l.take (i+1)) 130 (fun y hy2=>by
    have hy:=List.mem_of_mem_take hy2
    have:=iQ (s:=lQ y) (m:=121) (vW (Kt.out y hy)) (by omega)
    omega)
   rw[gG,List.length_append]at hfl
   have hmin:(l.take (i+1)).length<=4:=by rw[List.length_take];have:=HN.out;omega
   have hp:=bn (n:=l.length) (by have:=HN.out;omega)
   have nP:(bs++put l.length++(l.take i).flatMap (fun y:kF=>dD (lQ y))).length<=110000:=by rw[List.length_append,List.length_append];have:=jW.out;omega
   obtain⟨cur,hcur⟩:∃cur,bs++put l.length++(l.take i).flatMap (fun y:kF=>dD (lQ y))=cur:=⟨_,rfl⟩
   rw[hcur]at hws nP
   have hnext:bs++put l.length++(l.take (i+1)).flatMap (fun y:kF=>dD (lQ y))=cur++dD (lQ y):=by
    rw[gG,<-List.append_assoc,hcur]
   have hx:=HR.out.x.kept oC.out
   have hsrc:=hx.e
   rw[HL.out,HA.out]at hsrc
   obtain⟨ad,rfl,had,e0,e1,e2,e3⟩:=FW hsrc (by omega) i y hy
   have hyo:=hx.eo y (by rw[HL.out];exact hym)
   have hsz:=vW hyo.2
   have hcall:=I8 (wr.alloc (.cells #[.int .i64 y.cl,.int .i64 y.req,.slice y.A y.ops.length y.c,.int .u64 y.ts] 98)) y (hyo.1.kept ((Kept.refl aj wr).alloc _) (fun _ _ z=>z)) hyo.2
   obtain⟨s,hs⟩:∃s,lQ y=s:=⟨_,rfl⟩
   obtain⟨z,hz⟩:∃z,Ops.chk (mV y)=z:=⟨_,rfl⟩
   rw[hs,hz]at hcall
   rw[hs]at hnext hsz
   have nD:=ah hnext;have iW:=ah nP;have HC:=ah hcall;have kZ:=ah hsz;have wu:=ah hws
   clear hnext gG hfl hcur hmin hy hyi hym hp nP hx hsrc hyo hsz hcall hs hz hws
   go_wp2_with fail
   refine HC.out.mono ?_
   rintro e w4 ⟨rfl,hk4⟩
   have hs4:=WS.kept (G:=aj) (WS.alloc wu.out _) hk4
   have hb4:Below N w w4:=(uZ.out.trans (iF wu.out _)).trans (hk4.below (WS.alloc wu.out _).1 (fun _ z=>z.elim))
   have uI:=ah hs4;have HB4:=ah hb4;clear hs4 hb4 hk4
   go_wp2_with fail
   refine(ny uI.out s (by have:=kZ.out;have:=iW.out;omega)).mono ?_
   rintro e w5 ⟨rfl,hs5,hb5⟩
   rw[<-nD.out]at hs5
   have nH:=ah hs5;have iy:=ah (HB4.out.trans hb5);clear hs5 hb5
   go_wp2
   go_roundw
   case rel=>exact⟨i+1,by omega,by go_num,nH.out,iy.out⟩
   case measure=>simp[intOf];omega
  ·obtain rfl:i=l.length:=by omega
   rw[List.take_length,List.append_assoc]at hws
   have wu:=ah hws.tail;clear hws
   go_wp2
   go_end0
   exact⟨rfl,wu.out,uZ.out⟩
theorem Xj(h:WS N w g bs keep)(hr:Room N w0 w bs x)(hw:bU x 83=0):Calls Tryz.prog 340 #[.pointer (some ⟨g,0,none⟩),eH x,.int .i32 ((83:Nat):Int)] w (og N w g (bs++fC x 83) keep):=by
 have hE:fC x 83=put x.ss.length++x.ss.flatMap fun y:Int=>put y.toNat:=rfl
 rw[hE]
 obtain⟨W0,hW0⟩:∃W0,w.alloc (.cells (aG x).toArray 46)=W0:=⟨_,rfl⟩
 have hs0:WS N W0 g bs ((w.heap.size,.cells (aG x).toArray 46)::keep):=by rw[<-hW0];exact h.add _
 have hb0:Below N w W0:=by rw[<-hW0];exact iF h _
 have hsl:∀W b,WS N W g b ((w.heap.size,.cells (aG x).toArray 46)::keep)->W.cell? ⟨w.heap.size,20,none⟩=some (.slice x.sA x.ss.length x.sc):=fun W b hW=>Has.cell (t:=46) (hW.has (List.mem_cons_self ..)) 20
 have hn:x.ss.length<=8:=by
  by_cases hr:8<x.ss.length
  ·have hw2:(if 8<x.ss.length then (6:Int)else 0)=0:=hw
   rw[if_pos hr]at hw2;cases hw2
  ·omega
 have hlen:=hr.len
 have HR:=ah hr;have HN:=ah hn;have jW:=ah hlen;have uX:=ah hsl;have HW:=ah hw
 clear hn hlen hr h hE hsl hw
 obtain⟨l,hl⟩:∃l,x.ss=l:=⟨_,rfl⟩
 rw[hl]at HN uX⊢
 obtain⟨A,hA⟩:∃A,x.sA=A:=⟨_,rfl⟩
 rw[hA]at uX
 have q:=uX.out _ _ hs0
 have HL:=ah hl;have HA:=ah hA
 have wK:=ah hs0;have HB0:=ah hb0
 clear hs0 hb0 hl hA
 go_enter Tryz.func340,Tryz.ntmps340
 go_wp2_with fail
 clear hW0
 refine(fJ wK.out l.length (by have:=HN.out;omega) (by have:=jW.out;omega)).mono ?_
 rintro e w3 ⟨rfl,hs3,hb3⟩
 have q3:=uX.out _ _ hs3
 have kD:=ah hs3;have HB3:=ah (HB0.out.trans hb3);clear hs3 hb3
 go_wp2
 have heo:∀y∈l,0<=y/\y<=18446744073709551615:=fun y hy=>HR.out.x.so y (by rw[HL.out];exact hy)
 have Kt:=ah heo;clear heo
 go_loopw [52] (fun v wr=>∃i:Nat,i<=l.length/\v=.int .i64 i/\WS N wr g (bs++put l.length++(l.take i).flatMap (fun y:Int=>put y.toNat)) ((w.heap.size,.cells (aG x).toArray 46)::keep)/\Below N w wr) (fun v _=>l.length-(intOf v).toNat)
 case atStart=>exact⟨0,Nat.zero_le _,rfl,by simpa using kD.out,HB3.out⟩
 case round=>
  obtain⟨i,hi,rfl,hws,hbw⟩:=hrel
  have uZ:=ah hbw;clear hbw
  have hkw:=behind HR.out.k uZ.out HR.out.n
  have oC:=ah hkw;clear hkw
  have hnl:=HN.out
  by_cases hil:i<l.length
  ·obtain⟨y,hy⟩:∃y,l[i]? =some y:=⟨_,List.getElem?_eq_getElem hil⟩
   have hyi:l[i]=y:=by rw[List.getElem?_eq_getElem hil]at hy;exact Option.some.inj hy
   have hym:=List.mem_of_getElem? hy
   have gG:=oZ (fun y:Int=>put y.toNat) l i hil
   rw[hyi]at gG
   have hfl:=lS (fun y:Int=>put y.toNat) (l.take (i+1)) 9 (fun y hy2=>by
    have hy:=List.mem_of_mem_take hy2
    have b:=Kt.out y hy
    exact bn (by omega))
   rw[gG,List.length_append]at hfl
   have hmin:(l.take (i+1)).length<=8:=by rw[List.length_take];have:=HN.out;omega
   have hp:=bn (n:=l.length) (by have:=HN.out;omega)
   have nP:(bs++put l.length++(l.take i).flatMap (fun y:Int=>put y.toNat)).length<=110000:=by rw[List.length_append,List.length_append];have:=jW.out;omega
   obtain⟨cur,hcur⟩:∃cur,bs++put l.length++(l.take i).flatMap (fun y:Int=>put y.toNat)=cur:=⟨_,rfl⟩
   rw[hcur]at hws nP
   have hnext:bs++put l.length++(l.take (i+1)).flatMap (fun y:Int=>put y.toNat)=cur++put y.toNat:=by
    rw[gG,<-List.append_assoc,hcur]
   have hsrc:=(HR.out.x.kept oC.out).s
   rw[HL.out,HA.out]at hsrc
   obtain⟨ad,rfl,had,e0⟩:=Ud hsrc (by omega) i y hy
   have hyo:=Kt.out y hym
   obtain⟨n,rfl⟩:∃n:Nat,y=n:=⟨y.toNat,by omega⟩
   rw[Int.toNat_natCast]at hnext
   have nD:=ah hnext;have iW:=ah nP;have YI:=ah hyo;have wu:=ah hws
   clear hnext gG hfl hcur hmin hy hyi hym hp nP hsrc hyo hws
   go_wp2_with fail
   refine(vk wu.out n (by have:=YI.out;omega) (by have:=iW.out;omega)).mono ?_
   rintro e w5 ⟨rfl,hs5,hb5⟩
   rw[<-nD.out]at hs5
   have nH:=ah hs5;have iy:=ah (uZ.out.trans hb5);clear hs5 hb5
   go_wp2
   go_roundw
   case rel=>exact⟨i+1,by omega,by go_num,nH.out,iy.out⟩
   case measure=>simp[intOf];omega
  ·obtain rfl:i=l.length:=by omega
   rw[List.take_length,List.append_assoc]at hws
   have wu:=ah hws.tail;clear hws
   go_wp2
   go_end0
   exact⟨rfl,wu.out,uZ.out⟩
theorem Xk(h:WS N w g bs keep)(hr:Room N w0 w bs x)(hw:bU x 82=0):Calls Tryz.prog 340 #[.pointer (some ⟨g,0,none⟩),eH x,.int .i32 ((82:Nat):Int)] w (og N w g (bs++fC x 82) keep):=by
 have hE:fC x 82=put x.ps.length++x.ps.flatMap fun y:kT=>dD y.key++dD y.val:=rfl
 rw[hE]
 obtain⟨W0,hW0⟩:∃W0,w.alloc (.cells (aG x).toArray 46)=W0:=⟨_,rfl⟩
 have hs0:WS N W0 g bs ((w.heap.size,.cells (aG x).toArray 46)::keep):=by rw[<-hW0];exact h.add _
 have hb0:Below N w W0:=by rw[<-hW0];exact iF h _
 have hsl:∀W b,WS N W g b ((w.heap.size,.cells (aG x).toArray 46)::keep)->W.cell? ⟨w.heap.size,21,none⟩=some (.slice x.pA x.ps.length x.pc):=fun W b hW=>Has.cell (t:=46) (hW.has (List.mem_cons_self ..)) 21
 have hn:x.ps.length<=32:=by
  by_cases hr:32<x.ps.length
  ·have hw2:(if 32<x.ps.length then (6:Int)else dI oL x.ps)=0:=hw
   rw[if_pos hr]at hw2;cases hw2
  ·omega
 have hlen:=hr.len
 have HR:=ah hr;have HN:=ah hn;have jW:=ah hlen;have uX:=ah hsl;have HW:=ah hw
 clear hn hlen hr h hE hsl hw
 obtain⟨l,hl⟩:∃l,x.ps=l:=⟨_,rfl⟩
 rw[hl]at HN uX⊢
 obtain⟨A,hA⟩:∃A,x.pA=A:=⟨_,rfl⟩
 rw[hA]at uX
 have q:=uX.out _ _ hs0
 have HL:=ah hl;have HA:=ah hA
 have wK:=ah hs0;have HB0:=ah hb0
 clear hs0 hb0 hl hA
 go_enter Tryz.func340,Tryz.ntmps340
 go_wp2_with fail
 clear hW0
 refine(fJ wK.out l.length (by have:=HN.out;omega) (by have:=jW.out;omega)).mono ?_
 rintro e w3 ⟨rfl,hs3,hb3⟩
 have q3:=uX.out _ _ hs3
 have kD:=ah hs3;have HB3:=ah (HB0.out.trans hb3);clear hs3 hb3
 go_wp2
 have heo:∀y∈l,y.key.size<=8/\y.val.size<=8:=by
  have hw2:(if 32<x.ps.length then (6:Int)else dI oL x.ps)=0:=HW.out
  rw[if_neg (by rw[HL.out];have:=HN.out;omega),HL.out]at hw2
  intro y hy
  have hy0:=vV hw2 y hy
  unfold oL keyE at hy0
  by_cases e1:y.key.size<1\/8<y.key.size
  ·rw[if_pos e1,if_pos (by decide)]at hy0;cases hy0
  ·rw[if_neg e1,if_neg (by decide)]at hy0
   refine⟨by omega,?_⟩
   by_cases e2:8<y.val.size
   ·rw[if_pos e2]at hy0;cases hy0
   ·omega
 have Kt:=ah heo;clear heo
 go_loopw [70] (fun v wr=>∃i:Nat,i<=l.length/\v=.int .i64 i/\WS N wr g (bs++put l.length++(l.take i).flatMap (fun y:kT=>dD y.key++dD y.val)) ((w.heap.size,.cells (aG x).toArray 46)::keep)/\Below N w wr) (fun v _=>l.length-(intOf v).toNat)
 case atStart=>exact⟨0,Nat.zero_le _,rfl,by simpa using kD.out,HB3.out⟩
 case round=>
  obtain⟨i,hi,rfl,hws,hbw⟩:=hrel
  have uZ:=ah hbw;clear hbw
  have hkw:=behind HR.out.k uZ.out HR.out.n
  have oC:=ah hkw;clear hkw
  have hnl:=HN.out
  by_cases hil:i<l.length
  ·obtain⟨y,hy⟩:∃y,l[i]? =some y:=⟨_,List.getElem?_eq_getElem hil⟩
   have hyi:l[i]=y:=by rw[List.getElem?_eq_getElem hil]at hy;exact Option.some.inj hy
   have hym:=List.mem_of_getElem? hy
   have gG:=oZ (fun y:kT=>dD y.key++dD y.val) l i hil
   rw[hyi]at gG
   have hfl:=lS (fun y:kT=>dD y.key++dD y.val) (l.take (i+1)) 34 (fun y hy2=>by
    have hy:=List.mem_of_mem_take hy2
    have b:=Kt.out y hy
    have b1:=iQ (s:=y.key) (m:=8) (by omega) (by omega)
    have b2:=iQ (s:=y.val) (m:=8) (by omega) (by omega)
    rw[List.length_append];omega)
   rw[gG,List.length_append]at hfl
   have hmin:(l.take (i+1)).length<=32:=by rw[List.length_take];have:=HN.out;omega
   have hp:=bn (n:=l.length) (by have:=HN.out;omega)
   have nP:(bs++put l.length++(l.take i).flatMap (fun y:kT=>dD y.key++dD y.val)).length<=110000:=by rw[List.length_append,List.length_append];have:=jW.out;omega
   obtain⟨cur,hcur⟩:∃cur,bs++put l.length++(l.take i).flatMap (fun y:kT=>dD y.key++dD y.val)=cur:=⟨_,rfl⟩
   rw[hcur]at hws nP
   have hnext:bs++put l.length++(l.take (i+1)).flatMap (fun y:kT=>dD y.key++dD y.val)=(cur++dD y.key)++dD y.val:=by
    rw[gG,<-List.append_assoc,hcur]
    simp only[List.append_assoc]
   have hsrc:=(HR.out.x.kept oC.out).p
   rw[HL.out,HA.out]at hsrc
   obtain⟨ad,rfl,had,e0,e1⟩:=pair_cells hsrc (by omega) i y hy
   have hyo:=Kt.out y hym
   have b1:=iQ (s:=y.key) (m:=8) (by omega) (by omega)
   have hw0:=hws.add (.cells #[.string y.key,.string y.val] 401)
   have hos:∀W b,WS N W g b ((wr.heap.size,.cells #[.string y.key,.string y.val] 401)::(w.heap.size,.cells (aG x).toArray 46)::keep)->(W.cell? ⟨wr.heap.size,0,none⟩=some (.string y.key)/\W.cell? ⟨wr.heap.size,1,none⟩=some (.string y.val)):=
    fun W b hW=>⟨Has.cell (t:=401) (hW.has (List.mem_cons_self ..)) 0,Has.cell (t:=401) (hW.has (List.mem_cons_self ..)) 1⟩
   have hbx:=uZ.out.trans (iF hws (.cells #[.string y.key,.string y.val] 401))
   have nD:=ah hnext;have iW:=ah nP;have YI:=ah (And.intro hyo b1);have HW0:=ah hw0;have zJ:=ah hos;have HBX:=ah hbx
   clear hnext gG hfl hcur hmin hy hyi hym hp nP hsrc hyo hws hw0 hos b1 hbx
   have r0:=zJ.out _ _ HW0.out
   go_wp2_with fail
   go_region_held3 (fun W=>W.cell? ⟨wr.heap.size,0,none⟩=some (.string y.key)/\W.cell? ⟨wr.heap.size,1,none⟩=some (.string y.val)) (first|with_reducible exact r2|with_reducible exact r1|with_reducible exact r0|(simp[go_sem,r0];done))
    (first
     |(have hx:=o8;clear hx;go_at_call 197;refine(ny (by exact o8.out) y.val (by have:=iW.out;have:=YI.out;simp;omega)).mono ?_;rintro e w4 ⟨rfl,hv2,hd2⟩;have r2:=zJ.out _ _ hv2;have qg:=ah hv2;have HD2:=ah hd2;clear hv2 hd2)
     |(go_at_call 197;refine(ny (by exact HW0.out) y.key (by have:=iW.out;have:=YI.out;omega)).mono ?_;rintro e w3 ⟨rfl,hv1,hd1⟩;have r1:=zJ.out _ _ hv1;have o8:=ah hv1;have HD1:=ah hd1;clear hv1 hd1))
   have hb4:Below N w w4:=(HBX.out.drew.trans HD1.out).trans HD2.out
   have hv:=qg.out.tail
   rw[<-nD.out]at hv
   have HV:=ah hv;have HB4:=ah hb4;clear hv hb4
   go_wp2
   go_roundw
   case rel=>exact⟨i+1,by omega,by go_num,HV.out,HB4.out⟩
   case measure=>simp[intOf];omega
  ·obtain rfl:i=l.length:=by omega
   rw[List.take_length,List.append_assoc]at hws
   have wu:=ah hws.tail;clear hws
   go_wp2
   go_end0
   exact⟨rfl,wu.out,uZ.out⟩
theorem write_any(c:Nat)(hl:c∈letters)(h:WS N w g bs keep)(hr:Room N w0 w bs x)(hw:bU x c=0):Calls Tryz.prog 340 #[.pointer (some ⟨g,0,none⟩),eH x,.int .i32 c] w (og N w g (bs++fC x c) keep):=by
 by_cases h1:c=69
 ·subst h1;exact Xi h hr hw
 by_cases h2:c=83
 ·subst h2;exact Xj h hr hw
 by_cases h3:c=82
 ·subst h3;exact Xk h hr hw
 exact MU c hl ⟨h1,h2,h3⟩ h hr hw
end
end gX
namespace gX
open aP Ops zY Vn Ih
theorem ZN{x:bH}(h:ni x=0):isKind x.k=true/\∀c∈partsOf x.k,bU x c=0:=by
 unfold ni at h
 by_cases hk:isKind x.k=true
 ·rw[if_pos hk]at h;exact⟨hk,vV h⟩
 ·rw[if_neg hk]at h;cases h
theorem Xl(w:World)(x:bH)(h:iG w x):Calls Tryz.prog 247 #[eH x] w fun e w'=>e=.returned (.tuple #[.string (Aa x),.int .i64 (ni x)])/\Kept aj w w':=by
 obtain⟨W0,hW0⟩:∃W0,w.alloc (.cells (aG x).toArray 46)=W0:=⟨_,rfl⟩
 have hk0:Kept aj w W0:=by rw[<-hW0];(repeat'(first|(with_reducible first|exact ak|apply au|apply ay|apply aA|apply aB)|(right;simp;done)))
 have hn0:Has W0 w.heap.size 46 (aG x).toArray:=by rw[<-hW0];exact Has.new _ _ _
 have dL:=D5 W0 x (h.kept hk0)
 have aW:=ah hk0;have dw:=ah hn0;have HX:=ah h
 have hlt0:w.heap.size<W0.heap.size:=hn0.lt
 clear hk0 hn0 h
 by_cases hz:ni x=0
 rotate_left
 ·have hr:Aa x=emp:=by unfold Aa;rw[if_neg hz]
  rw[hr]
  obtain⟨z,hz1⟩:∃z,ni x=z:=⟨_,rfl⟩
  rw[hz1]at hz dL⊢
  have hz2:(z !=0)=true:=by simpa using hz
  have HC:=ah dL
  clear hr hz hz1 dL hlt0
  go_enter Tryz.func247,Tryz.ntmps247
  go_wp2_with (refine wpList_load_row rfl 46 (.tmp 1) rfl w.heap.size rfl 46 _ (0,0) _ dw.out Tryz.underlying46 rfl (by kernel_rfl) ?_)
  clear hW0
  refine HC.out.mono ?_
  rintro e w2 ⟨rfl,hk⟩
  have HK:=ah (aW.out.then hk);clear hk
  go_wp2
  go_ret2
  exact⟨rfl,HK.out⟩
 have hr:Aa x=bu (VC x):=by unfold Aa;rw[if_pos hz]
 rw[hr]
 obtain⟨hkk,hwr⟩:=ZN hz
 rw[hz]at dL⊢
 have Xm:1<=x.k/\x.k<=15:=of_decide_eq_true hkk
 have hp:=fun W=>FX W x.k hkk
 have hlet:=zH x.k
 have zT:=QK x.k
 have hpm:VC x=put x.k.toNat++(partsOf x.k).flatMap (fC x):=rfl
 rw[hpm]
 obtain⟨l,hl⟩:∃l,partsOf x.k=l:=⟨_,rfl⟩
 rw[hl]at hp hlet zT hwr⊢
 obtain⟨k,hk⟩:∃k:Nat,x.k=k:=⟨x.k.toNat,by omega⟩
 have hq:∀W,Has W w.heap.size 46 (aG x).toArray->W.cell? ⟨w.heap.size,0,none⟩=some (.int .i64 (k:Int)):=fun W hW=>by
  have h0:W.cell? ⟨w.heap.size,0,none⟩=some (.int .i64 x.k):=hW.cell 0
  rw[hk]at h0
  exact h0
 rw[hk]at hp Xm⊢
 rw[Int.toNat_natCast]
 have HC:=ah dL;have HP:=ah hp;have OH:=ah hlet;have Ue:=ah zT;have oM:=ah hwr;have HQ:=ah hq;have aa':=ah Xm;have adE:=ah hlt0
 clear dL hp hlet zT hwr hq hz hr hkk hk hl hpm Xm hlt0
 have q0:=HQ.out _ dw.out
 go_enter Tryz.func247,Tryz.ntmps247
 go_wp2_with (refine wpList_load_row rfl 46 (.tmp 1) rfl w.heap.size rfl 46 _ (0,0) _ dw.out Tryz.underlying46 rfl (by kernel_rfl) ?_)
 clear hW0 q0
 refine HC.out.mono ?_
 rintro e w2 ⟨rfl,hk2⟩
 have dA:=ah (dw.out.kept hk2 (fun z=>z));have aQ:=ah (aW.out.then hk2);clear hk2
 have q0:=HQ.out _ dA.out
 go_wp2_with fail
 clear q0
 refine(HP.out _).mono ?_
 rintro e w3 ⟨rfl,hk3⟩
 have kY:=ah (dA.out.kept hk3 (fun z=>z));have bf:=ah (aQ.out.then hk3);clear hk3
 have c0:=HQ.out _ kY.out
 have hnew:∀W,Has W w.heap.size 46 (aG x).toArray->Calls Tryz.prog 194 #[] W fun e w'=>∃g,e=.returned (.pointer (some ⟨g,0,none⟩))/\WS W.heap.size w' g [] [(w.heap.size,.cells (aG x).toArray 46)]/\Kept aj W w':=
  fun W hW=>pP W _ (fun y hy=>by simp at hy;subst hy;exact hW)
 have fE:=ah hnew;clear hnew
 go_wp2_with fail
 go_region_held3 (fun W=>W.cell? ⟨w.heap.size,0,none⟩=some (.int .i64 (k:Int))) (first|with_reducible exact q5|with_reducible exact q4|with_reducible exact c0|(simp[go_sem,c0];done))
  (first
   |(go_at_call 194;refine(fE.out _ (by exact kY.out)).mono ?_;rintro e w4 ⟨g,rfl,hw4,kQ⟩;have q4:=HQ.out _ (hw4.has (List.mem_singleton.2 rfl));have kC:=ah hw4;have kR:=ah kQ;clear hw4 kQ)
   |(go_at_call 195;refine(fJ (by exact kC.out) k (by have:=aa'.out;omega) (by simp)).mono ?_;rintro e w5 ⟨rfl,hw5,hb5⟩;have q5:=HQ.out _ (hw5.has (List.mem_singleton.2 rfl));have dJ:=ah hw5;have iy:=ah hb5;clear hw5 hb5))
 have hk4:Kept aj w w4:=Kept.then (by(repeat'(first|(with_reducible first|exact ak|apply au|apply ay|apply aA|apply aB)|(with_reducible exact bf.out)|(right;simp;done)))) kR.out
 have hle:w.heap.size<=w3.heap.size:=bf.out.size
 have hk5:Kept aj w w5:=behind hk4 iy.out hle
 have hw5:=dJ.out
 simp only[List.nil_append]at hw5
 have hN:(w3.drewN 0).heap.size=w3.heap.size:=rfl
 clear q4 q5 c0 kC dJ iy kR hk4 fE HC HP hN
 have dJ:=ah hw5;have cO:=ah hk5;have iL:=ah hle;clear hw5 hk5 hle
 have YJ:=bn (n:=k) (by have:=aa'.out;omega)
 have hne:put k≠[]:=by
  intro e
  have h1:=put_pos k
  rw[e]at h1
  simp at h1
 have HH:=ah (And.intro YJ hne);clear YJ hne
 go_wp2_with fail
 go_loopg [] l.length (fun gf wx=>∃i:Nat,i<=l.length/\WS w3.heap.size wx g (put k++(l.take i).flatMap (fC x)) [(w5.heap.size,.stringIter (lets l) i),(w.heap.size,.cells (aG x).toArray 46)]/\Kept aj w wx/\l.length<=i+gf)
 case atStart=>exact⟨0,Nat.zero_le _,(by rw[List.take_zero,List.flatMap_nil,List.append_nil];exact dJ.out.add (.stringIter (lets l) 0)),cO.out.alloc _,by omega⟩
 case round=>
  obtain⟨i,hi,hws,hk,hfu⟩:=hrel
  have HK:=ah hk;clear hk
  have hit:wr.heap[w5.heap.size]? =some (.stringIter (lets l) i):=hws.has (List.mem_cons_self ..)
  by_cases hil:i<l.length
  ·obtain⟨g',rfl⟩:∃g',gk=g'+1:=⟨gk-1,by omega⟩
   obtain⟨c,hc⟩:∃c,l[i]? =some c:=⟨_,List.getElem?_eq_getElem hil⟩
   have hci:l[i]=c:=by rw[List.getElem?_eq_getElem hil]at hc;exact Option.some.inj hc
   have hcm:=List.mem_of_getElem? hc
   obtain⟨hps,hb,ha⟩:=Ns OH.out hc
   have hnx:∀ty,(Instr.next (.pointer (some ⟨w5.heap.size,0,none⟩)) true ty).run Tryz.prog wr=_:=fun ty=>Lib.run_next_ascii_at wr w5.heap.size (lets l) i ty hit hps ha
   rw[hb]at hnx
   have h05:=EK (dJ.out.has (List.mem_singleton.2 rfl))
   have hs2:=hws.iterAt (q:=i+1) (fun y hy=>by simp at hy;subst hy;dsimp only;dsimp only at h05;omega)
   have hk2:=Kept.iterAt HK.out (k:=w5.heap.size) (.inr cO.out.size) (lets l) (i+1)
   obtain⟨W,hWd⟩:∃W,wr.iterAt w5.heap.size (lets l) (i+1)=W:=⟨_,rfl⟩
   rw[hWd]at hnx hs2 hk2
   have hfl:=lS (fC x) (l.take i) 1100 (fun y hy=>QL HX.out (oM.out y (List.mem_of_mem_take hy)))
   have hmin:(l.take i).length<=7:=by rw[List.length_take];have:=Ue.out;omega
   have hlen:(put k++(l.take i).flatMap (fC x)).length<=100000:=by rw[List.length_append];have:=HH.out.1;omega
   have hcall:=write_any (w0:=w) c (OH.out c hcm) hs2 ⟨HX.out,hk2,iL.out,hlen⟩ (oM.out c hcm)
   have gG:=oZ (fC x) l i hil
   rw[hci]at gG
   rw[List.append_assoc,<-gG]at hcall
   have IZ:=ah hcall;have HS2:=ah hs2;have oC:=ah hk2
   clear hcall hs2 hk2 hWd hb ha hps hit hc hci hcm hfl hmin hlen gG hws h05
   go_wp2_with (refine wpList_load_row rfl 46 (.tmp 1) rfl w.heap.size rfl 46 _ (0,0) _ (HS2.out.has (x:=(w.heap.size,.cells (aG x).toArray 46)) (List.mem_cons_of_mem _ (List.mem_singleton.2 rfl))) Tryz.underlying46 rfl (by kernel_rfl) ?_)
   refine IZ.out.mono ?_
   rintro e w6 ⟨rfl,hs6,hb6⟩
   have mW:=ah hs6;have jV:=ah (behind oC.out hb6 iL.out);clear hs6 hb6
   go_wp2
   go_roundg g'
   case measure=>omega
   case rel=>exact⟨i+1,by omega,mW.out,jV.out,by omega⟩
  ·obtain rfl:i=l.length:=by omega
   rw[List.take_length]at hws
   have hps:¬l.length<(lets l).size:=by rw[Ae];omega
   have hnx:∀ty,(Instr.next (.pointer (some ⟨w5.heap.size,0,none⟩)) true ty).run Tryz.prog wr=_:=fun ty=>Lib.run_next_end_at wr w5.heap.size (lets l) l.length ty hit hps
   obtain⟨R,hR⟩:∃R,put k++l.flatMap (fC x)=R:=⟨_,rfl⟩
   rw[hR]at hws
   have hne:R≠[]:=by
    rw[<-hR]
    have:=HH.out.2
    simp;intro h;exact absurd h this
   have wu:=ah hws;have zF:=ah hne;have HR:=ah hR;clear hit hps hne hws hR
   go_wp2_with fail
   refine(nC wu.out zF.out).mono ?_
   rintro e w6 ⟨rfl,hb6⟩
   have jV:=ah (behind HK.out hb6 iL.out);clear hb6
   go_wp2
   go_ret2
   exact⟨by rw[HR.out];rfl,jV.out⟩
end gX
end Go.Proofs.YtolkgbafebehfaaGreat

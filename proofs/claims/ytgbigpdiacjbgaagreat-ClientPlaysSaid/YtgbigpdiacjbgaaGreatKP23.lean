/- Part 24. -/
import Derived.Test.YtgbigpdiacjbgaaGreatKP22
set_option linter.unusedSimpArgs false
set_option linter.unusedVariables false
set_option maxHeartbeats 32000000
set_option maxRecDepth 100000
namespace Go.Proofs.YtgbigpdiacjbgaaGreat
open Go.RowKit Go.Shelf
namespace eP
open bg Ops fG Vn JL
def dY(N:Nat)(w:World)(g:Nat)(bs:List UInt8)(keep:List KB)(e:Ending)(w':World):Prop:=e=.returned (.tuple #[])/\WS N w' g bs keep/\Below N w w'
section
variable{N:Nat}{w w0:World}{g:Nat}{bs:List UInt8}{keep:List KB}{x:aO}
theorem kC(h:WS N w g bs keep)(o:Obj):Below N w (w.alloc o):=(Below.refl N w).alloc h.1 o
structure Room(N:Nat)(w0 w:World)(bs:List UInt8)(x:aO):Prop where
 x:pU w0 x
 k:Kept aj w0 w
 n:w0.heap.size<=N
 len:bs.length<=100000
theorem Ss(c:Nat)(hc:isNum c=true)(h:WS N w g bs keep)(hr:Room N w0 w bs x)(hw:aT x c=0):Calls Tryz.prog 133 #[.pointer (some ⟨g,0,none⟩),aK x,.int .i32 c] w (dY N w g (bs++bT x c) keep):=by
 have hE:bT x c=put (mP x c).toNat:=by unfold bT;rw[if_pos hc]
 rw[hE];obtain⟨W0,hW0⟩:∃W0,w.alloc (.cells (au x).toArray 63)=W0:=⟨_,rfl⟩;have hs0:WS N W0 g bs ((w.heap.size,.cells (au x).toArray 63)::keep):=by rw[<-hW0];exact h.add _
 have hb0:Below N w W0:=by rw[<-hW0];exact kC h _
 have hk0:Kept aj w W0:=by rw[<-hW0];(repeat'(first|(with_reducible first|exact ay|apply aA|apply aB|apply aC|apply aF)|(right;simp;done)))
 have hn0:Has W0 w.heap.size 63 (au x).toArray:=hs0.has (List.mem_cons_self ..);have hx0:=hr.x.kept (hr.k.then hk0);have hlen:=hr.len;obtain⟨⟨t1,t2⟩,⟨t3,t4⟩,t5⟩:=hr.x.t;unfold aY at t2 t4;have hnum:=FN W0 w.heap.size c hc;have q:W0.cell? ⟨w.heap.size,numAt c,none⟩=some (.int .i64 (mP x c)):=by have h:c=101\/c=115\/c=114\/c=110\/c=109\/c=112:=of_decide_eq_true hc;rcases h with rfl|rfl|rfl|rfl|rfl|rfl<;>exact hn0.cell _
 have hn:0<=mP x c/\mP x c<=1073741824:=by
  unfold aT at hw;rw[if_pos hc]at hw;unfold qM at hw;by_cases hr:mP x c<0\/1073741824<mP x c
  ·rw[if_pos hr]at hw;cases hw
  ·omega
 obtain⟨n,hn2⟩:∃n:Nat,mP x c=n:=⟨(mP x c).toNat,by omega⟩;obtain⟨a,ha⟩:∃a,numAt c=a:=⟨_,rfl⟩;rw[hn2,ha]at q;rw[ha]at hnum;rw[hn2,Int.toNat_natCast];rw[hn2]at hn;have hcall:=sN hs0 n (by omega) (by omega);have HN:=ah hnum;have HC:=ah hcall;have HB:=ah hb0;clear hn2 ha hn0 hc hk0 hnum hcall hs0 hx0 h hr hw hlen t1 t2 t3 t4 t5 hE hn hb0;go_enter Tryz.func133,Tryz.ntmps133;go_wp2_with fail;clear hW0;refine HN.out.mono ?_;rintro e w2 ⟨rfl,rfl⟩;go_wp2_with fail;refine HC.out.mono ?_;rintro e w3 ⟨rfl,hs3,hb3⟩;have qJ:=ah hs3.tail;have HB3:=ah (HB.out.trans hb3);clear hs3 hb3;go_wp2;exact bodyPost_ret (v:=.tuple #[]) (by simp[results,Tryz.results133,go_sem]) rfl ⟨rfl,qJ.out,HB3.out⟩
theorem Sv(h:WS N w g bs keep)(hr:Room N w0 w bs x)(hw:aT x 120=0):Calls Tryz.prog 133 #[.pointer (some ⟨g,0,none⟩),aK x,.int .i32 ((120:Nat):Int)] w (dY N w g (bs++bT x 120) keep):=by
 have hE:bT x 120=put x.e.toNat:=rfl;rw[hE];obtain⟨W0,hW0⟩:∃W0,w.alloc (.cells (au x).toArray 63)=W0:=⟨_,rfl⟩;have hs0:WS N W0 g bs ((w.heap.size,.cells (au x).toArray 63)::keep):=by rw[<-hW0];exact h.add _
 have hb0:Below N w W0:=by rw[<-hW0];exact kC h _
 have hk0:Kept aj w W0:=by rw[<-hW0];(repeat'(first|(with_reducible first|exact ay|apply aA|apply aB|apply aC|apply aF)|(right;simp;done)))
 have hn0:Has W0 w.heap.size 63 (au x).toArray:=hs0.has (List.mem_cons_self ..);have hx0:=hr.x.kept (hr.k.then hk0);have hlen:=hr.len;obtain⟨⟨t1,t2⟩,⟨t3,t4⟩,t5⟩:=hr.x.t;unfold aY at t2 t4;have hnum:=fC W0 w.heap.size 120 (by decide) (by decide);have HN:=ah hnum;have HB:=ah hb0;have q:W0.cell? ⟨w.heap.size,10,none⟩=some (.int .i64 x.e):=hn0.cell 10;have hn:0<=x.e/\x.e<=21:=by
  have hw2:(if x.e<0\/21<x.e then (1:Int)else 0)=0:=hw;by_cases hr:x.e<0\/21<x.e
  ·rw[if_pos hr]at hw2;cases hw2
  ·omega
 obtain⟨n,hn2⟩:∃n:Nat,x.e=n:=⟨x.e.toNat,by omega⟩;rw[hn2]at q hn⊢;rw[Int.toNat_natCast];have hcall:=sN hs0 n (by omega) (by omega);have HC:=ah hcall;clear hn2 hn hcall;clear hn0 hk0 hnum hs0 hx0 h hr hw hlen t1 t2 t3 t4 t5 hE hb0;go_enter Tryz.func133,Tryz.ntmps133;go_wp2_with fail;clear hW0;refine HN.out.mono ?_;rintro e w2 ⟨rfl,rfl⟩;go_wp2_with fail;refine HC.out.mono ?_;rintro e w3 ⟨rfl,hs3,hb3⟩;have qJ:=ah hs3.tail;have HB3:=ah (HB.out.trans hb3);clear hs3 hb3;go_wp2;exact bodyPost_ret (v:=.tuple #[]) (by simp[results,Tryz.results133,go_sem]) rfl ⟨rfl,qJ.out,HB3.out⟩
theorem Vr(h:WS N w g bs keep)(hr:Room N w0 w bs x)(hw:aT x 97=0):Calls Tryz.prog 133 #[.pointer (some ⟨g,0,none⟩),aK x,.int .i32 ((97:Nat):Int)] w (dY N w g (bs++bT x 97) keep):=by
 have hE:bT x 97=put x.at'.toNat:=rfl;rw[hE];obtain⟨W0,hW0⟩:∃W0,w.alloc (.cells (au x).toArray 63)=W0:=⟨_,rfl⟩;have hs0:WS N W0 g bs ((w.heap.size,.cells (au x).toArray 63)::keep):=by rw[<-hW0];exact h.add _
 have hb0:Below N w W0:=by rw[<-hW0];exact kC h _
 have hk0:Kept aj w W0:=by rw[<-hW0];(repeat'(first|(with_reducible first|exact ay|apply aA|apply aB|apply aC|apply aF)|(right;simp;done)))
 have hn0:Has W0 w.heap.size 63 (au x).toArray:=hs0.has (List.mem_cons_self ..);have hx0:=hr.x.kept (hr.k.then hk0);have hlen:=hr.len;obtain⟨⟨t1,t2⟩,⟨t3,t4⟩,t5⟩:=hr.x.t;unfold aY at t2 t4;have hnum:=fC W0 w.heap.size 97 (by decide) (by decide);have HN:=ah hnum;have HB:=ah hb0;have q:W0.cell? ⟨w.heap.size,5,none⟩=some (.int .u64 x.at'):=hn0.cell 5;obtain⟨n,hn2⟩:∃n:Nat,x.at'=n:=⟨x.at'.toNat,by omega⟩;rw[hn2]at q t1 t2⊢;rw[Int.toNat_natCast];have hcall:=EN hs0 n (by omega) (by omega);have HC:=ah hcall;clear hn2 hcall;clear hn0 hk0 hnum hs0 hx0 h hr hw hlen t1 t2 t3 t4 t5 hE hb0;go_enter Tryz.func133,Tryz.ntmps133;go_wp2_with fail;clear hW0;refine HN.out.mono ?_;rintro e w2 ⟨rfl,rfl⟩;go_wp2_with fail;refine HC.out.mono ?_;rintro e w3 ⟨rfl,hs3,hb3⟩;have qJ:=ah hs3.tail;have HB3:=ah (HB.out.trans hb3);clear hs3 hb3;go_wp2;exact bodyPost_ret (v:=.tuple #[]) (by simp[results,Tryz.results133,go_sem]) rfl ⟨rfl,qJ.out,HB3.out⟩
theorem Sz(h:WS N w g bs keep)(hr:Room N w0 w bs x)(hw:aT x 108=0):Calls Tryz.prog 133 #[.pointer (some ⟨g,0,none⟩),aK x,.int .i32 ((108:Nat):Int)] w (dY N w g (bs++bT x 108) keep):=by
 have hE:bT x 108=put x.last.toNat:=rfl;rw[hE];obtain⟨W0,hW0⟩:∃W0,w.alloc (.cells (au x).toArray 63)=W0:=⟨_,rfl⟩;have hs0:WS N W0 g bs ((w.heap.size,.cells (au x).toArray 63)::keep):=by rw[<-hW0];exact h.add _
 have hb0:Below N w W0:=by rw[<-hW0];exact kC h _
 have hk0:Kept aj w W0:=by rw[<-hW0];(repeat'(first|(with_reducible first|exact ay|apply aA|apply aB|apply aC|apply aF)|(right;simp;done)))
 have hn0:Has W0 w.heap.size 63 (au x).toArray:=hs0.has (List.mem_cons_self ..);have hx0:=hr.x.kept (hr.k.then hk0);have hlen:=hr.len;obtain⟨⟨t1,t2⟩,⟨t3,t4⟩,t5⟩:=hr.x.t;unfold aY at t2 t4;have hnum:=fC W0 w.heap.size 108 (by decide) (by decide);have HN:=ah hnum;have HB:=ah hb0;have q:W0.cell? ⟨w.heap.size,6,none⟩=some (.int .u64 x.last):=hn0.cell 6;obtain⟨n,hn2⟩:∃n:Nat,x.last=n:=⟨x.last.toNat,by omega⟩;rw[hn2]at q t3 t4⊢;rw[Int.toNat_natCast];have hcall:=EN hs0 n (by omega) (by omega);have HC:=ah hcall;clear hn2 hcall;clear hn0 hk0 hnum hs0 hx0 h hr hw hlen t1 t2 t3 t4 t5 hE hb0;go_enter Tryz.func133,Tryz.ntmps133;go_wp2_with fail;clear hW0;refine HN.out.mono ?_;rintro e w2 ⟨rfl,rfl⟩;go_wp2_with fail;refine HC.out.mono ?_;rintro e w3 ⟨rfl,hs3,hb3⟩;have qJ:=ah hs3.tail;have HB3:=ah (HB.out.trans hb3);clear hs3 hb3;go_wp2;exact bodyPost_ret (v:=.tuple #[]) (by simp[results,Tryz.results133,go_sem]) rfl ⟨rfl,qJ.out,HB3.out⟩
theorem SA(h:WS N w g bs keep)(hr:Room N w0 w bs x)(hw:aT x 102=0):Calls Tryz.prog 133 #[.pointer (some ⟨g,0,none⟩),aK x,.int .i32 ((102:Nat):Int)] w (dY N w g (bs++bT x 102) keep):=by
 have hE:bT x 102=sW x.fl:=rfl;rw[hE];obtain⟨W0,hW0⟩:∃W0,w.alloc (.cells (au x).toArray 63)=W0:=⟨_,rfl⟩;have hs0:WS N W0 g bs ((w.heap.size,.cells (au x).toArray 63)::keep):=by rw[<-hW0];exact h.add _
 have hb0:Below N w W0:=by rw[<-hW0];exact kC h _
 have hk0:Kept aj w W0:=by rw[<-hW0];(repeat'(first|(with_reducible first|exact ay|apply aA|apply aB|apply aC|apply aF)|(right;simp;done)))
 have hn0:Has W0 w.heap.size 63 (au x).toArray:=hs0.has (List.mem_cons_self ..);have hx0:=hr.x.kept (hr.k.then hk0);have hlen:=hr.len;obtain⟨⟨t1,t2⟩,⟨t3,t4⟩,t5⟩:=hr.x.t;unfold aY at t2 t4;have hnum:=fC W0 w.heap.size 102 (by decide) (by decide);have HN:=ah hnum;have HB:=ah hb0;have q:W0.cell? ⟨w.heap.size,4,none⟩=some (.bool x.fl):=hn0.cell 4;obtain⟨b,hb⟩:∃b,x.fl=b:=⟨_,rfl⟩;rw[hb]at q⊢;have hcall:=La hs0 b (by omega);have HC:=ah hcall;clear hcall hb;clear hn0 hk0 hnum hs0 hx0 h hr hw hlen t1 t2 t3 t4 t5 hE hb0;go_enter Tryz.func133,Tryz.ntmps133;go_wp2_with fail;clear hW0;refine HN.out.mono ?_;rintro e w2 ⟨rfl,rfl⟩;go_wp2_with fail;refine HC.out.mono ?_;rintro e w3 ⟨rfl,hs3,hb3⟩;have qJ:=ah hs3.tail;have HB3:=ah (HB.out.trans hb3);clear hs3 hb3;go_wp2;exact bodyPost_ret (v:=.tuple #[]) (by simp[results,Tryz.results133,go_sem]) rfl ⟨rfl,qJ.out,HB3.out⟩
theorem SB(h:WS N w g bs keep)(hr:Room N w0 w bs x)(hw:aT x 107=0):Calls Tryz.prog 133 #[.pointer (some ⟨g,0,none⟩),aK x,.int .i32 ((107:Nat):Int)] w (dY N w g (bs++bT x 107) keep):=by
 have hE:bT x 107=dA x.key:=rfl;rw[hE];obtain⟨W0,hW0⟩:∃W0,w.alloc (.cells (au x).toArray 63)=W0:=⟨_,rfl⟩;have hs0:WS N W0 g bs ((w.heap.size,.cells (au x).toArray 63)::keep):=by rw[<-hW0];exact h.add _
 have hb0:Below N w W0:=by rw[<-hW0];exact kC h _
 have hk0:Kept aj w W0:=by rw[<-hW0];(repeat'(first|(with_reducible first|exact ay|apply aA|apply aB|apply aC|apply aF)|(right;simp;done)))
 have hn0:Has W0 w.heap.size 63 (au x).toArray:=hs0.has (List.mem_cons_self ..);have hx0:=hr.x.kept (hr.k.then hk0);have hlen:=hr.len;obtain⟨⟨t1,t2⟩,⟨t3,t4⟩,t5⟩:=hr.x.t;unfold aY at t2 t4;have hnum:=fC W0 w.heap.size 107 (by decide) (by decide);have HN:=ah hnum;have HB:=ah hb0;have q:W0.cell? ⟨w.heap.size,11,none⟩=some (.string x.key):=hn0.cell 11;have hn:x.key.size<=8:=by
  have hw2:(if 8<x.key.size then (3:Int)else 0)=0:=hw;by_cases hr:8<x.key.size
  ·rw[if_pos hr]at hw2;cases hw2
  ·omega
 obtain⟨s,hs⟩:∃s,x.key=s:=⟨_,rfl⟩;rw[hs]at q hn⊢;have hcall:=uk hs0 s (by omega);have HC:=ah hcall;clear hcall hs hn;clear hn0 hk0 hnum hs0 hx0 h hr hw hlen t1 t2 t3 t4 t5 hE hb0;go_enter Tryz.func133,Tryz.ntmps133;go_wp2_with fail;clear hW0;refine HN.out.mono ?_;rintro e w2 ⟨rfl,rfl⟩;go_wp2_with fail;refine HC.out.mono ?_;rintro e w3 ⟨rfl,hs3,hb3⟩;have qJ:=ah hs3.tail;have HB3:=ah (HB.out.trans hb3);clear hs3 hb3;go_wp2;go_end0;exact⟨rfl,qJ.out,HB3.out⟩
theorem SC(h:WS N w g bs keep)(hr:Room N w0 w bs x)(hw:aT x 116=0):Calls Tryz.prog 133 #[.pointer (some ⟨g,0,none⟩),aK x,.int .i32 ((116:Nat):Int)] w (dY N w g (bs++bT x 116) keep):=by
 have hE:bT x 116=dA x.to:=rfl;rw[hE];obtain⟨W0,hW0⟩:∃W0,w.alloc (.cells (au x).toArray 63)=W0:=⟨_,rfl⟩;have hs0:WS N W0 g bs ((w.heap.size,.cells (au x).toArray 63)::keep):=by rw[<-hW0];exact h.add _
 have hb0:Below N w W0:=by rw[<-hW0];exact kC h _
 have hk0:Kept aj w W0:=by rw[<-hW0];(repeat'(first|(with_reducible first|exact ay|apply aA|apply aB|apply aC|apply aF)|(right;simp;done)))
 have hn0:Has W0 w.heap.size 63 (au x).toArray:=hs0.has (List.mem_cons_self ..);have hx0:=hr.x.kept (hr.k.then hk0);have hlen:=hr.len;obtain⟨⟨t1,t2⟩,⟨t3,t4⟩,t5⟩:=hr.x.t;unfold aY at t2 t4;have hnum:=fC W0 w.heap.size 116 (by decide) (by decide);have HN:=ah hnum;have HB:=ah hb0;have q:W0.cell? ⟨w.heap.size,12,none⟩=some (.string x.to):=hn0.cell 12;have hn:x.to.size<=8:=by
  have hw2:(if 8<x.to.size then (3:Int)else 0)=0:=hw;by_cases hr:8<x.to.size
  ·rw[if_pos hr]at hw2;cases hw2
  ·omega
 obtain⟨s,hs⟩:∃s,x.to=s:=⟨_,rfl⟩;rw[hs]at q hn⊢;have hcall:=uk hs0 s (by omega);have HC:=ah hcall;clear hcall hs hn;clear hn0 hk0 hnum hs0 hx0 h hr hw hlen t1 t2 t3 t4 t5 hE hb0;go_enter Tryz.func133,Tryz.ntmps133;go_wp2_with fail;clear hW0;refine HN.out.mono ?_;rintro e w2 ⟨rfl,rfl⟩;go_wp2_with fail;refine HC.out.mono ?_;rintro e w3 ⟨rfl,hs3,hb3⟩;have qJ:=ah hs3.tail;have HB3:=ah (HB.out.trans hb3);clear hs3 hb3;go_wp2;go_end0;exact⟨rfl,qJ.out,HB3.out⟩
theorem Vs(h:WS N w g bs keep)(hr:Room N w0 w bs x)(hw:aT x 67=0):Calls Tryz.prog 133 #[.pointer (some ⟨g,0,none⟩),aK x,.int .i32 ((67:Nat):Int)] w (dY N w g (bs++bT x 67) keep):=by
 have hE:bT x 67=dA (wJ x.fO x.ms x.mG):=rfl;rw[hE];obtain⟨W0,hW0⟩:∃W0,w.alloc (.cells (au x).toArray 63)=W0:=⟨_,rfl⟩;have hs0:WS N W0 g bs ((w.heap.size,.cells (au x).toArray 63)::keep):=by rw[<-hW0];exact h.add _
 have hb0:Below N w W0:=by rw[<-hW0];exact kC h _
 have hk0:Kept aj w W0:=by rw[<-hW0];(repeat'(first|(with_reducible first|exact ay|apply aA|apply aB|apply aC|apply aF)|(right;simp;done)))
 have hn0:Has W0 w.heap.size 63 (au x).toArray:=hs0.has (List.mem_cons_self ..);have hx0:=hr.x.kept (hr.k.then hk0);have hlen:=hr.len;obtain⟨⟨t1,t2⟩,⟨t3,t4⟩,t5⟩:=hr.x.t;unfold aY at t2 t4;have hnum:=fC W0 w.heap.size 67 (by decide) (by decide);have HN:=ah hnum;have HB:=ah hb0;have q1:W0.cell? ⟨w.heap.size,13,none⟩=some (.int .i64 x.fO):=hn0.cell 13;have q2:W0.cell? ⟨w.heap.size,14,none⟩=some (.slice x.mA x.ms.length x.mc):=hn0.cell 14;have q3:W0.cell? ⟨w.heap.size,15,none⟩=some (.int .u64 x.mG):=hn0.cell 15;have hcall:=Vp W0 x.fO x.mG x.mA x.mc x.ms hx0.m hx0.mc hx0.ml t5;have hsz:=IL (ep:=x.fO) (ms:=x.ms) t5;obtain⟨s,hs⟩:∃s,wJ x.fO x.ms x.mG=s:=⟨_,rfl⟩;obtain⟨z,hz⟩:∃z,bg.chk x.fO x.ms=z:=⟨_,rfl⟩;rw[hs]at hcall hsz⊢;rw[hz]at hcall;have HC:=ah hcall;have qP:=ah hs0;have sH:=ah (And.intro hsz hlen);clear hcall hs hz hsz;clear hn0 hk0 hnum hs0 hx0 h hr hw hlen t1 t2 t3 t4 t5 hE hb0;go_enter Tryz.func133,Tryz.ntmps133;go_wp2_with fail;clear hW0;refine HN.out.mono ?_;rintro e w2 ⟨rfl,rfl⟩;go_wp2_with fail;refine HC.out.mono ?_;rintro e w3 ⟨rfl,hk3⟩;have hs3:=WS.kept (G:=aj) qP.out hk3;have hb3:Below N w w3:=HB.out.trans (hk3.below qP.out.1 (fun _ z=>z.elim));have qJ:=ah hs3;have HB3:=ah hb3;clear hs3 hb3 hk3;go_wp2_with fail;refine(uk qJ.out s (by have:=sH.out;omega)).mono ?_;rintro e w4 ⟨rfl,hs4,hb4⟩;have D9:=ah hs4.tail;have HB4:=ah (HB3.out.trans hb4);clear hs4 hb4;go_wp2;go_end0;exact⟨rfl,D9.out,HB4.out⟩
theorem Vt(h:WS N w g bs keep)(hr:Room N w0 w bs x)(hw:aT x 66=0):Calls Tryz.prog 133 #[.pointer (some ⟨g,0,none⟩),aK x,.int .i32 ((66:Nat):Int)] w (dY N w g (bs++bT x 66) keep):=by
 have hE:bT x 66=dA (wK (jU x)):=rfl;rw[hE];obtain⟨W0,hW0⟩:∃W0,w.alloc (.cells (au x).toArray 63)=W0:=⟨_,rfl⟩;have hs0:WS N W0 g bs ((w.heap.size,.cells (au x).toArray 63)::keep):=by rw[<-hW0];exact h.add _
 have hb0:Below N w W0:=by rw[<-hW0];exact kC h _
 have hk0:Kept aj w W0:=by rw[<-hW0];(repeat'(first|(with_reducible first|exact ay|apply aA|apply aB|apply aC|apply aF)|(right;simp;done)))
 have hn0:Has W0 w.heap.size 63 (au x).toArray:=hs0.has (List.mem_cons_self ..);have hx0:=hr.x.kept (hr.k.then hk0);have hlen:=hr.len;obtain⟨⟨t1,t2⟩,⟨t3,t4⟩,t5⟩:=hr.x.t;unfold aY at t2 t4;have hnum:=fC W0 w.heap.size 66 (by decide) (by decide);have HN:=ah hnum;have HB:=ah hb0;have q1:W0.cell? ⟨w.heap.size,16,none⟩=some (.int .i64 x.o7):=hn0.cell 16;have q2:W0.cell? ⟨w.heap.size,17,none⟩=some (.int .i64 x.lK):=hn0.cell 17;have q3:W0.cell? ⟨w.heap.size,18,none⟩=some (.slice x.oA x.ops.length x.oc):=hn0.cell 18;have hcall:=Lc W0 (jU x) x.oA x.oc hx0.o;have hsz:=xU (jU x);have hpb:qy (jU x)=wK (jU x):=rfl;rw[hpb]at hcall;obtain⟨s,hs⟩:∃s,wK (jU x)=s:=⟨_,rfl⟩;obtain⟨z,hz⟩:∃z,Ops.chk (jU x)=z:=⟨_,rfl⟩;rw[hs]at hcall hsz⊢;rw[hz]at hcall;dsimp only[nT,jU]at hcall;have HC:=ah hcall;have qP:=ah hs0;have sH:=ah (And.intro hsz hlen);clear hcall hs hz hsz hpb;clear hn0 hk0 hnum hs0 hx0 h hr hw hlen t1 t2 t3 t4 t5 hE hb0;go_enter Tryz.func133,Tryz.ntmps133;go_wp2_with fail;clear hW0;refine HN.out.mono ?_;rintro e w2 ⟨rfl,rfl⟩;go_wp2_with fail;refine HC.out.mono ?_;rintro e w3 ⟨rfl,hk3⟩;have hs3:=WS.kept (G:=aj) qP.out hk3;have hb3:Below N w w3:=HB.out.trans (hk3.below qP.out.1 (fun _ z=>z.elim));have qJ:=ah hs3;have HB3:=ah hb3;clear hs3 hb3 hk3;go_wp2_with fail;refine(uk qJ.out s (by have:=sH.out;omega)).mono ?_;rintro e w4 ⟨rfl,hs4,hb4⟩;have D9:=ah hs4.tail;have HB4:=ah (HB3.out.trans hb4);clear hs4 hb4;go_wp2;go_end0;exact⟨rfl,D9.out,HB4.out⟩
theorem SE(c:Nat)(hl:c∈letters)(hn:c≠69/\c≠83/\c≠82)(h:WS N w g bs keep)(hr:Room N w0 w bs x)(hw:aT x c=0):Calls Tryz.prog 133 #[.pointer (some ⟨g,0,none⟩),aK x,.int .i32 c] w (dY N w g (bs++bT x c) keep):=by
 by_cases hc:isNum c=true
 ·exact Ss c hc h hr hw
 ·have h2:¬(c=101\/c=115\/c=114\/c=110\/c=109\/c=112):=fun z=>hc (decide_eq_true z);have h1:c=67\/c=97\/c=102\/c=108\/c=66\/c=120\/c=107\/c=116:=by unfold letters at hl;simp only[List.mem_cons,List.not_mem_nil,or_false]at hl;omega
  rcases h1 with rfl|rfl|rfl|rfl|rfl|rfl|rfl|rfl
  ·exact Vs h hr hw
  ·exact Vr h hr hw
  ·exact SA h hr hw
  ·exact Sz h hr hw
  ·exact Vt h hr hw
  ·exact Sv h hr hw
  ·exact SB h hr hw
  ·exact SC h hr hw

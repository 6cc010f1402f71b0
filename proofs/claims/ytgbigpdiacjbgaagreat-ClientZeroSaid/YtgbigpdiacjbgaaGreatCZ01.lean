/- Part 2. -/
import Derived.Test.YtgbigpdiacjbgaaGreatCZ00
import Derived.Test.YtgbigpdiacjbgaaGreatChecked
import Derived.WalkSpells
import Derived.WalkLawsBesides
import Derived.BigQuiet
import Derived.Deep.OwnRows
import Derived.Lib.SlBytesRow
set_option linter.unusedSimpArgs false
set_option linter.unusedVariables false
set_option maxHeartbeats 32000000
set_option maxRecDepth 100000
namespace Go.Proofs.YtgbigpdiacjbgaaGreat
namespace Vn
def be:Nat->Nat->List Nat
 |0,_=>[]
 |k+1,n=>be k (n/256)++[n%256]
def needs(n:Nat):Nat:=if h:n<256 then 1 else 1+needs (n/256)
termination_by n
decreasing_by omega
def gu(l:List Nat):List UInt8:=l.map fun x=>UInt8.ofNat x
def put(n:Nat):List UInt8:=if n<248 then gu [n]else gu ((247+needs n)::be (needs n) n)
def val(l:List Nat):Nat:=l.foldl (fun a b=>a*256+b) 0
theorem fM(k n:Nat):(be k n).length=k:=by
 induction k generalizing n with
 |zero=>rfl
 |succ k ih=>simp[be,ih]
theorem o8(n:Nat):1<=needs n:=by rw[needs];split<;>omega
theorem mD{n:Nat}(h:n<256):needs n=1:=by rw[needs,dif_pos h]
theorem o9{n:Nat}(h:¬n<256):needs n=1+needs (n/256):=by rw[needs,dif_neg h]
theorem xC(k n:Nat)(h:n<256^k)(hk:1<=k):needs n<=k:=by
 induction k generalizing n with
 |zero=>omega
 |succ k ih=>
  by_cases hn:n<256
  ·rw[mD hn];omega
  ·rw[o9 hn];have h1:n/256<256^k:=by rw[Nat.div_lt_iff_lt_mul (by decide)];rw[Nat.pow_succ]at h;exact h
   have hk1:1<=k:=by
    rcases Nat.eq_zero_or_pos k with rfl|h0
    ·simp at h;omega
    ·exact h0
   have:=ih (n/256) h1 hk1;omega
theorem kR{n:Nat}(h:n<18446744073709551616):needs n<=8:=xC 8 n (by simpa using h) (by decide)
theorem Ar(k n i:Nat)(h:i<k):(be k n)[i]? =some (n/256^(k-1-i)%256):=by
 induction k generalizing n with
 |zero=>omega
 |succ k ih=>
  by_cases hi:i<k
  ·rw[be,List.getElem?_append_left (by rw[fM];exact hi),ih _ hi,Nat.div_div_eq_div_mul];have e:k+1-1-i=(k-1-i)+1:=by omega
   rw[e,Nat.pow_succ,Nat.mul_comm]
  ·obtain rfl:i=k:=by omega
   rw[be,List.getElem?_append_right (by rw[fM];omega)];simp[fM]
theorem ql(k n i:Nat)(h:i<k):(be k n).take (i+1)=(be k n).take i++[n/256^(k-1-i)%256]:=by rw[List.take_add_one,Ar k n i h];rfl
theorem kS{n:Nat}(h:n<248):put n=[UInt8.ofNat n]:=by simp[put,h,gu]
theorem zM{n:Nat}(h:¬n<248):put n=gu ((247+needs n)::be (needs n) n):=by simp[put,h]
theorem nI(n:Nat):(put n).length=if n<248 then 1 else 1+needs n:=by unfold put;split<;>simp[gu,fM,Nat.add_comm]
theorem fD{n:Nat}(h:n<18446744073709551616):(put n).length<=9:=by have:=kR h;rw[nI];split<;>omega
theorem put_pos(n:Nat):1<=(put n).length:=by rw[nI];split<;>omega
end Vn
end Go.Proofs.YtgbigpdiacjbgaaGreat
namespace Go.Proofs.YtgbigpdiacjbgaaGreat
namespace Ops
open Vn
abbrev bl(s:ByteArray):List UInt8:=s.data.toList
def bJ(l:List UInt8):ByteArray:=⟨l.toArray⟩
structure aS where
 key:ByteArray
 val:ByteArray
 del:Bool
deriving DecidableEq
def cell(o:aS):List Value:=[.string o.key,.string o.val,.bool o.del]
def cells(l:List aS):List Value:=l.flatMap cell
structure Batch where
 cl:Int
 req:Int
 ops:List aS
def emp:ByteArray:=⟨#[]⟩
theorem dJ(s:ByteArray):(bl s).length=s.size:=Array.length_toList
theorem qm(s:ByteArray):bJ (bl s)=s:=by simp[bJ,bl]
theorem gy(l:List UInt8):bl (bJ l)=l:=by simp[bJ,bl]
theorem uQ{s t:ByteArray}(h:bl s=bl t):s=t:=by rw[<-qm s,<-qm t,h]
def one(o:aS)(ahead:ByteArray)(first:Bool):Int:=
 if o.key.size<1\/8<o.key.size then 10 else if 8<o.val.size then 3 else if o.del=true/\o.val.size≠0 then 4
 else if first=false/\Op.bytesLess ahead.toList o.key.toList=false then 18 else 0
def iK:List aS->ByteArray->Bool->Int
 |[],_,_=>0
 |o::l,a,f=>if one o a f≠0 then one o a f else iK l o.key false
def chk(b:Batch):Int:=
 if b.cl<0\/3<=b.cl then 1 else if b.req<1\/1073741824<b.req then 5 else if 4<b.ops.length then 6 else iK b.ops emp true
def aP(s:ByteArray):List UInt8:=put s.size++bl s
def jF(b:Bool):List UInt8:=[if b then 1 else 0]
def bT(o:aS):List UInt8:=aP o.key++jF o.del++aP o.val
def kT(b:Batch):List UInt8:=put b.cl.toNat++put b.req.toNat++put b.ops.length++b.ops.flatMap bT
theorem fO{α β:Type}(f:α->List β)(l:List α)(i:Nat)(h:i<l.length):(l.take (i+1)).flatMap f=(l.take i).flatMap f++f l[i]:=by rw[List.take_add_one,List.getElem?_eq_getElem h,List.flatMap_append];simp
theorem rX{l:List aS}{a:ByteArray}{f:Bool}(h:iK l a f=0):∀o∈l,1<=o.key.size/\o.key.size<=8/\o.val.size<=8/\(o.del=true->o.val.size=0):=by
 induction l generalizing a f with
 |nil=>intro o ho;cases ho
 |cons x l ih=>
  unfold iK at h;split at h
  ·rename_i h1;exact absurd h h1
  ·rename_i h1;have h2:one x a f=0:=Classical.byContradiction h1;have hx:1<=x.key.size/\x.key.size<=8/\x.val.size<=8/\(x.del=true->x.val.size=0):=by
    unfold one at h2;split at h2
    ·cases h2
    ·rename_i g1;split at h2
     ·cases h2
     ·rename_i g2;split at h2
      ·cases h2
      ·rename_i g3;refine⟨by omega,by omega,by omega,fun hd=> ?_⟩;exact Classical.byContradiction fun hv=>g3 ⟨hd,hv⟩
   intro o ho;rcases List.mem_cons.1 ho with rfl|ho
   ·exact hx
   ·exact ih h o ho
theorem qo{b:Batch}(h:chk b=0):0<=b.cl/\b.cl<3/\1<=b.req/\b.req<=1073741824/\b.ops.length<=4/\iK b.ops emp true=0:=by
 unfold chk at h;split at h
 ·cases h
 ·split at h
  ·cases h
  ·split at h
   ·cases h
   ·rename_i h1 h2 h3;exact⟨by omega,by omega,by omega,by omega,by omega,h⟩
theorem zN(l:List aS)(i:Nat)(h:i<l.length)(a:ByteArray)(f:Bool):iK (l.drop i) a f=if one l[i] a f≠0 then one l[i] a f else iK (l.drop (i+1)) l[i].key false:=by rw[List.drop_eq_getElem_cons h,iK]
theorem mO{o:aS}(h1:o.key.size<=8)(h2:o.val.size<=8):(bT o).length<=19:=by
 have e1:(put o.key.size).length=1:=by rw[kS (by omega)];rfl
 have e2:(put o.val.size).length=1:=by rw[kS (by omega)];rfl
 simp only[bT,aP,jF,List.length_append,e1,e2,dJ,List.length_cons,List.length_nil];omega
theorem je(l:List aS)(h:∀o∈l,(bT o).length<=19):(l.flatMap bT).length<=l.length*19:=by
 induction l with
 |nil=>simp
 |cons a l ih=>
  have h1:=h a (by simp);have h2:=ih fun o ho=>h o (by simp[ho]);simp only[List.flatMap_cons,List.length_append,List.length_cons];omega
end Ops
end Go.Proofs.YtgbigpdiacjbgaaGreat
namespace Go.Proofs.YtgbigpdiacjbgaaGreat
open Go.RowKit
namespace Vn
open Ops (bJ bl)
theorem uS:Elem Tryz.prog 205 5 1 1:=
 by
 obtain⟨i0,hi,hz0,hz1,hz2⟩:=info_parts (show(Tryz.prog.info? 5).map (fun i=>(i.zero,i.size,i.bytes))=some (some (.int .u8 0),1,1) by kernel_rfl)
 exact⟨Tryz.underlying205,⟨i0,_,hi,hz0,hz1,hz2,rfl⟩,by decide⟩
def bG(e:TypeId)(size B:Nat)(w:World)(A:Option Addr)(n c:Nat)(xs:List Value):Prop:=
 w.ownsRow 0 e size (.slice A n c) n xs/\∀k,(Value.slice A n c).ownBlock=some k->B<=k
theorem bG.kept{e:TypeId}{size B n c:Nat}{w w':World}{A:Option Addr}{xs:List Value}(h:bG e size B w A n c xs)(hk:Kept aj w w'):bG e size B w' A n c xs:=
 ⟨aX h.1 hk (fun _ _ x=>x),h.2⟩
theorem bG.snoc{e:TypeId}{size B n c n' c':Nat}{w w1 w':World}{A A':Option Addr}{xs ys:List Value}(h:bG e size B w A n c xs)(hB:B<=w1.heap.size)(ho:w'.ownsRow 0 e size (.slice A' n' c') n' ys)
  (ha:(Value.slice A' n' c').ownBlock=(Value.slice A n c).ownBlock\/(Value.slice A' n' c').ownBlock=some w1.heap.size):bG e size B w' A' n' c' ys:=
 ⟨ho,fun k hk=>by
  rcases ha with e1|e1
  ·exact h.2 k (e1.symm.trans hk)
  ·rw[hk]at e1;injection e1 with e1;omega⟩
theorem qp(W:World)(b:Nat)(n:Int)(c:Nat)(hn:0<=n)(hn':n<256)(hc:W.cell? ⟨b,0,none⟩=some (.int .u8 n)):
  (convert 205 9 (.slice (some ⟨b,0,none⟩) 1 c)).run Tryz.prog W=.ok (.string ⟨#[UInt8.ofNat n.toNat]⟩) W:=by
 refine Lib.run_convert_whole (P:=Tryz.prog) W 205 5 9 Tryz.underlying205 Tryz.underlying5 Tryz.underlying9 b 0 ⟨#[UInt8.ofNat n.toNat]⟩ ?_ c;intro i hi;have h0:i=0:=by have:i<1:=hi;omega
 subst h0;rw[Nat.add_zero,hc];show _=some (Value.int IntKind.u8 ((UInt8.ofNat n.toNat).toNat:Int));congr 2;simp;omega
theorem xE(W:World)(b:Nat)(l:List UInt8)(c:Nat)(h:∀(i:Nat) x,l[i]? =some x->W.cell? ⟨b,i,none⟩=some (.int .u8 x.toNat)):
  (convert 205 9 (.slice (some ⟨b,0,none⟩) l.length c)).run Tryz.prog W=.ok (.string (bJ l)) W:=by
 have hs:(bJ l).size=l.length:=by simp[bJ,ByteArray.size]
 rw[<-hs];refine Lib.run_convert_whole (P:=Tryz.prog) W 205 5 9 Tryz.underlying205 Tryz.underlying5 Tryz.underlying9 b 0 (bJ l) ?_ c;intro i hi;have hi':i<l.length:=by omega
 rw[Nat.zero_add,h i l[i] (lB0 hi')];rfl
theorem sU(n:Nat)(hn:n<18446744073709551616)(w:World):Calls Tryz.prog 169 #[.int .u64 n] w fun e w'=>e=.returned (.int .i64 (needs n))/\w=w':=by
 have h8:=kR hn;go_enter Tryz.func169,Tryz.ntmps169;go_wp2;go_step3;go_wp2;go_step3;go_wp2;go_loop [0,3] (fun v0 v3=>∃m k:Nat,v0=.int .u64 m/\v3=.int .i64 k/\m<18446744073709551616/\k+needs m=needs n) (fun v0 _=>(intOf v0).toNat)
 case atStart=>exact⟨n,0,rfl,rfl,hn,by omega⟩
 case round=>
  obtain⟨m,k,rfl,rfl,hm,he⟩:=hrel;have hp:=o8 m;have hk:k<8:=by omega
  by_cases h0:m<256
  ·have e1:=mD h0;have hz:m/256=0:=by omega
   have hz2:(m:Int)/256=0:=by omega
   have hkn:k+1=needs n:=by omega
   have HE:=ah he;clear he;have HK:=ah hkn;clear hkn e1 hp h8;go_wp2;go_ret;exact⟨by rw[<-HK.out];simp,rfl⟩
  ·have e1:=o9 h0;have hz:¬m/256=0:=by omega
   have hz2:¬(m:Int)/256=0:=by omega
   have HE:=ah he;clear he;have EY:=ah e1;clear e1 hp h8;go_wp2;go_round
   case rel=>exact⟨m/256,k+1,by go_num,by go_num,by omega,by rw[<-HE.out,EY.out];omega⟩
   case measure=>simp[intOf];omega
theorem zO(g i:Nat):((⟨g,0,none⟩:Addr).add i)=⟨g,i,none⟩:=by unfold Addr.add;split<;>simp_all
theorem pY(l:List UInt8)(i:Nat)(x:UInt8)(h:l[i]? =some x):(Lib.byteCells l)[i]? =some (.int .u8 x.toNat):=by simp[Lib.byteCells,h]
theorem mP(n:Nat)(hn:n<18446744073709551616)(w:World):Calls Tryz.prog 129 #[.int .u64 n] w fun e w'=>e=.returned (.string (bJ (put n)))/\Kept aj w w':=by
 by_cases hs:n<248
 ·have hp:put n=[UInt8.ofNat n]:=kS hs;rw[hp];have hcv:=qp (w.alloc (Obj.cells #[Value.int .u8 n] 5)) w.heap.size n 1 (by omega) (by omega) (by simp);have hs':(n:Int)<248:=by omega
  clear hp;go_enter Tryz.func129,Tryz.ntmps129;go_wp2;go_ret;exact⟨rfl,(Kept.refl _ _).alloc _⟩
 ·obtain⟨i0,hi,hz0,hz1,hz2⟩:=info_parts (show(Tryz.prog.info? 5).map (fun i=>(i.zero,i.size,i.bytes))=some (some (.int .u8 0),1,1) by kernel_rfl);have qw:=kR hn;have hn1:=o8 n;have hnd:=sU n hn;have hp:=zM hs;obtain⟨k,hk⟩:∃k,needs n=k:=⟨_,rfl⟩;rw[hk]at qw hn1 hnd hp;have HP:=ah hp;clear hp hk;have HN:=ah hnd;clear hnd;have hs':¬(n:Int)<248:=by omega
  go_enter Tryz.func129,Tryz.ntmps129;go_wp2_with fail;refine(HN.out _).mono ?_;rintro e w2 ⟨rfl,rfl⟩;go_wp2_with (refine wpList_make_own _ rfl _ _ 205 rfl 0 5 i0 (.int .u8 0) 1 Tryz.underlying205 hi hz0 hz1 .i64 .i64 9 9 rfl rfl rfl (by rw[hz2];decide) (by decide) (Nat.zero_le _) ?_);intro w3 hown hg;have hk3:Kept aj w w3:=(Kept.refl _ _).grown hg (fun k hk=>by cases hk);have hz3:w.heap.size<=w3.heap.size:=hk3.size;have hrow:bG 5 1 w.heap.size w3 (some ⟨w.heap.size,0,none⟩) 0 9 []:=⟨hown,fun k hk=>oP hk (Nat.le_refl _)⟩;have dh:=ah hrow;clear hrow hown hg;have bf:=ah hk3;clear hk3;go_wp2_with (at_builtin;refine bM uS (.tmp 15) (.tmp 19) rfl rfl (Value.slice _ 0 9) rfl ((dh.out.kept ((Kept.refl _ _).alloc _)).1) 1 rfl (Src.jO (m:=1) (cs:=#[.int .u8 (247+k)]) (Has.jd _ 5 _ (by simp)) rfl) (by intro u hu;simp at hu;subst hu;rfl) (by decide) (by decide) ?_;intro A c w4 uT hg4 Di);have Gt:=bf.out.size;have hn3:bG 5 1 w.heap.size w4 A 1 c [.int .u8 (247+k)]:=dh.out.snoc (by simp;omega) uT Di;have hk4:Kept aj w w4:=(bf.out.alloc _).grown hg4 (fun k hk=> .inr (dh.out.2 k hk));clear uT hg4 Di;have zi:=ah hn3;clear hn3;have dW:=ah hk4;clear hk4;go_loopw [4,22] (fun v4 v22 wr=>∃(i:Nat) (A:Option Addr) (c:Nat),i<=k/\v22=.int .i64 i/\v4=.slice A (1+i) c/\bG 5 1 w.heap.size wr A (1+i) c (Lib.byteCells (gu ((247+k)::(be k n).take i)))/\Kept aj w wr) (fun _ v22 _=>k-(intOf v22).toNat)
  case atStart=>
   refine⟨0,A,c,Nat.zero_le _,rfl,rfl,?_,dW.out⟩;have e:Lib.byteCells (gu ((247+k)::(be k n).take 0))=[.int .u8 (247+k)]:=by simp[Lib.byteCells,gu];omega
   rw[e];exact zi.out
  case round=>
   obtain⟨i,A,c,hi,rfl,rfl,hrow,hk⟩:=hrel;have dh:=ah hrow;clear hrow;have Au:=ah hk;clear hk;by_cases hik:i<k
   ·have e1:((8:Int)*(↑k-1-↑i))=((8*(k-1-i):Nat):Int):=by omega
    have e2:8*(k-1-i)<64:=by omega
    have e3:(Value.int .u8 ((n:Int)/2^(8*(k-1-i))%256))=.int .u8 ((UInt8.ofNat (n/256^(k-1-i)%256)).toNat:Nat):=by
     have h2:((2:Int)^(8*(k-1-i)))=((256^(k-1-i):Nat):Int):=by
      have:(256:Nat)^(k-1-i)=2^(8*(k-1-i)):=by rw[Nat.pow_mul]
      rw[this,Int.natCast_pow];rfl
     have h3:(UInt8.ofNat (n/256^(k-1-i)%256)).toNat=n/256^(k-1-i)%256:=by rw[UInt8.toNat_ofNat'];omega
     rw[h2,h3];norm_cast
    have e4:Lib.byteCells (gu ((247+k)::(be k n).take (i+1)))=Lib.byteCells (gu ((247+k)::(be k n).take i))++[.int .u8 ((n:Int)/2^(8*(k-1-i))%256)]:=by rw[ql k n i hik,e3];simp[Lib.byteCells,gu]
    have EZ:=ah e4;clear e4 e3;have hS:1+i+1<=maxLen:=by unfold maxLen;omega
    have hS2:(1+i+1)*1<=140737488355328:=by omega
    have HS:=ah hS;clear hS;have HS2:=ah hS2;clear hS2;have Dj:=Au.out.size;have E4:=ah Dj;clear Dj;go_wp2_with (at_builtin;refine bM uS (.tmp 25) (.tmp 34) rfl rfl (Value.slice A (1+i) c) rfl ((dh.out.kept ((Kept.refl _ _).alloc _)).1) 1 rfl (Src.jO (m:=1) (cs:=#[.int .u8 ((n:Int)/2^(8*(k-1-i))%256)]) (Has.jd _ 5 _ (by simp)) rfl) (by intro u hu;simp at hu;subst hu;rfl) HS.out HS2.out ?_;intro A5 c5 w5 Dk hg5 Dl);have Dn:bG 5 1 w.heap.size w5 A5 (1+i+1) c5 (Lib.byteCells (gu ((247+k)::(be k n).take (i+1)))):=by rw[EZ.out];exact dh.out.snoc (by simp;have:=E4.out;omega) Dk Dl
    have hk5:Kept aj w w5:=(Au.out.alloc _).grown hg5 (fun k hk=> .inr (dh.out.2 k hk));clear Dk hg5 Dl;have E5:=ah Dn;clear Dn;have dw:=ah hk5;clear hk5;go_wp2;go_roundw
    case rel=>exact⟨i+1,A5,c5,by omega,by go_num,rfl,E5.out,dw.out⟩
    case measure=>simp[intOf];omega
   ·obtain rfl:i=k:=by omega
    have hform:=dh.out.1.form (by omega);obtain⟨b,cap,hv,_,hlt⟩:=hform;injection hv with hA _ hC;subst hA;subst hC;have hlen:(gu ((247+i)::(be i n).take i)).length=1+i:=by simp[gu,fM];omega
    have hcv:=xE wr b (gu ((247+i)::(be i n).take i)) c (fun j x hx=>by have:=dh.out.1.cells (g:=b) rfl j _ (pY _ _ _ hx);rwa[zO]at this)
    rw[hlen,List.take_of_length_le (by rw[fM];exact Nat.le_refl _),<-HP.out]at hcv;go_wp2;go_ret;exact⟨rfl,Au.out⟩

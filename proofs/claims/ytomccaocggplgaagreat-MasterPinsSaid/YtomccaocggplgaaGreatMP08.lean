/- Part 9. -/
import Derived.Test.YtomccaocggplgaaGreatMP04
import Derived.StillTailTactics
set_option linter.unusedSimpArgs false
set_option linter.unusedVariables false
set_option maxHeartbeats 32000000
set_option maxRecDepth 100000
namespace Go.Proofs.YtomccaocggplgaaGreat
open Go.RowKit
namespace aJ
def fK(b:Nat)(w:World)(A:Option Addr)(n c:Nat)(l:List Int):Prop:=
 n=l.length/\w.ownsRow 0 3 1 (.slice A n c) n (ints l)/\∀k,(Value.slice A n c).ownBlock=some k->b<=k
theorem fK.nil(b:Nat)(w:World):fK b w none 0 0 []:=⟨rfl,⟨rfl,.inl ⟨rfl,rfl⟩⟩,fun k hk=>by cases hk⟩
theorem fK.kept{b:Nat}{w w':World}{A:Option Addr}{n c:Nat}{l:List Int}(h:fK b w A n c l)(hk:Kept aj w w'):fK b w' A n c l:=
 ⟨h.1,aC h.2.1 hk (fun _ _ x=>x),h.2.2⟩
theorem fK.snoc{b:Nat}{w w':World}{A A':Option Addr}{n c c':Nat}{l:List Int}{x:Int}(h:fK b w A n c l)(hb:b<=w.heap.size)
  (ho:w'.ownsRow 0 3 1 (.slice A' (n+1) c') (n+1) (ints l++[.int .i64 x]))
  (ha:(Value.slice A' (n+1) c').ownBlock=(Value.slice A n c).ownBlock\/(Value.slice A' (n+1) c').ownBlock=some w.heap.size):fK b w' A' (n+1) c' (l++[x]):=by
 refine⟨by rw[h.1];simp,by simpa [ints]using ho,fun k hk=> ?_⟩;rcases ha with e|e
 ·exact h.2.2 k (e.symm.trans hk)
 ·rw[hk]at e;injection e with e;omega
theorem dw.far{b:Nat}{w w':World}{A:Option Addr}{n c:Nat}{l:List Mem}(h:dw b w A n c l){F:Nat->Prop}(hk:Kept F w w')(hf:∀k,(Value.slice A n c).ownBlock=some k->¬F k):dw b w' A n c l:=
 ⟨h.1,aC h.2.1 hk hf,h.2.2⟩
theorem dw.mono{b b':Nat}{w:World}{A:Option Addr}{n c:Nat}{l:List Mem}(h:dw b w A n c l)(hb:b'<=b):dw b' w A n c l:=⟨h.1,h.2.1,fun k hk=>Nat.le_trans hb (h.2.2 k hk)⟩
theorem dw.ne{b:Nat}{w:World}{A:Option Addr}{n c:Nat}{l:List Mem}(h:dw b w A n c l){g:Nat}{t:TypeId}{cs:Array Value}(hg:Has w g t cs)(hne:56≠t):(Value.slice A n c).ownBlock≠some g:=own_ne h.2.1 hg hne
def fU(N:Next)(A:Option Addr)(n c:Nat)(B:Option Addr)(m d:Nat):Value:=.tuple #[nC N.ep A n c N.fl,.slice B m d,.int .i64 N.e]
def kX(w:World)(N:Next)(e:Ending)(w':World):Prop:=
 ∃A n c B m d,e=.returned (fU N A n c B m d)/\dw w.heap.size w' A n c N.l/\fK w.heap.size w' B m d N.t/\Kept aj w w'
end aJ
namespace jQ
open aJ Vn
theorem IZ(w:World)(b o:Nat)(t:TypeId)(cs:Array Value)(h:Has w b t cs)(ho:o<cs.size)(y:Int):
  Calls Tryz.prog 166 #[.pointer (some ⟨b,o,none⟩),.int .i64 y] w fun e w'=>e=.returned (.tuple #[])/\w'=w.setCell ⟨b,o,none⟩ (.int .i64 y):=by
 have hc:w.cell? ⟨b,o,none⟩=some cs[o]:=by rw[h.cell];exact Array.getElem?_eq_getElem ho
 have hz:=h.frozen o;have hst:=run_call_store (P:=Tryz.prog) Tryz.func227 (by kernel_rfl) (by kernel_rfl) (by kernel_rfl) (by kernel_rfl) (k:=.i64) (y:=y) hc hz;clear hc hz h ho;go_enter Tryz.func166,Tryz.ntmps166;go_wp2;go_end0;exact⟨rfl,rfl⟩
theorem XE(w:World)(b o:Nat)(x:Int)(h:w.cell? ⟨b,o,none⟩=some (.int .i64 x)):
  Calls Tryz.prog 232 #[.pointer (some ⟨b,o,none⟩)] w fun e w'=>e=.returned (.int .i64 x)/\w=w':=by
 have hst:=run_call_load (P:=Tryz.prog) Tryz.func252 (by kernel_rfl) (by kernel_rfl) (by kernel_rfl) .i64 (by kernel_rfl) h;clear h;go_enter Tryz.func232,Tryz.ntmps232;go_wp2;go_ret;exact⟨rfl,rfl⟩
theorem aa6(w:World)(b o:Nat)(t:TypeId)(cs:Array Value)(x:Int)(h:Has w b t cs)(hx:cs[o]? =some (.int .i64 x))(h0:0<=x)(h1:x<=1073741824):
  Calls Tryz.prog 172 #[.pointer (some ⟨b,o,none⟩),.int .i64 1] w fun e w'=>e=.returned (.int .i64 (x+1))/\w'=w.setCell ⟨b,o,none⟩ (.int .i64 (x+1)):=by
 have hc:w.cell? ⟨b,o,none⟩=some (.int .i64 x):=by rw[h.cell];exact hx
 have hz:=h.frozen o;have hs:(Op.intArith .add .i64 x 1).run Tryz.prog w=.ok (.int .i64 (x+1)) w:=by have h2:IntKind.i64.wrap (x+1)=x+1:=IntWalk.i64_in _ (by omega);show(Sem.run Tryz.prog (Op.intArith .add .i64 x 1) w)=_;simp only[Op.intArith];rw[h2];rfl
 have hst:=run_call_add (P:=Tryz.prog) Tryz.func231 (by kernel_rfl) (by kernel_rfl) (by kernel_rfl) .i64 (by kernel_rfl) hc hz hs;clear hc hz h hx hs;go_enter Tryz.func172,Tryz.ntmps172;go_wp2;go_ret;exact⟨rfl,rfl⟩
def bump(n:Int):Int:=if 1073741824<n+1 then 1073741824 else n+1
theorem Tv{n:Int}(h:0<=n/\n<=1073741824):0<=bump n/\bump n<=1073741824:=by unfold bump;split<;>omega
theorem OI(w:World)(b o:Nat)(t:TypeId)(cs:Array Value)(x:Int)(h:Has w b t cs)(hx:cs[o]? =some (.int .i64 x))(h0:0<=x/\x<=1073741824):
  Calls Tryz.prog 99 #[.pointer (some ⟨b,o,none⟩)] w fun e w'=>e=.returned (.int .i64 (bump x))/\Has w' b t (cs.setIfInBounds o (.int .i64 (bump x)))/\Kept (fun k=>k=b) w w':=by
 have hadd:=aa6 w b o t cs x h hx h0.1 h0.2;have h1:=h.put o (.int .i64 (x+1));have ho:o<cs.size:=(Array.getElem?_eq_some_iff.1 hx).1;have hst:=IZ (w.setCell ⟨b,o,none⟩ (.int .i64 (x+1))) b o t _ h1 (by simpa using ho) 1073741824;have h2:=h1.put o (.int .i64 1073741824);rw[Array.setIfInBounds_setIfInBounds]at h2;have afj:=ah hadd;have HST:=ah hst;have H1:=ah h1;have H2:=ah h2;clear hadd hst h1 h2 h hx ho;unfold bump;by_cases hb:1073741824<x+1
 ·rw[if_pos hb];go_enter Tryz.func99,Tryz.ntmps99;go_wp2_with fail;refine afj.out.mono ?_;rintro e w2 ⟨rfl,rfl⟩;go_wp2_with fail;refine HST.out.mono ?_;rintro e w2 ⟨rfl,rfl⟩;go_wp2;go_ret;exact⟨rfl,H2.out,by(repeat'(first|(with_reducible first|exact ak|apply au|apply ay|apply aA|apply aB)|(exact Or.inl rfl)|(right;simp;done)))⟩
 ·rw[if_neg hb];go_enter Tryz.func99,Tryz.ntmps99;go_wp2_with fail;refine afj.out.mono ?_;rintro e w2 ⟨rfl,rfl⟩;go_wp2;go_ret;exact⟨rfl,H1.out,by(repeat'(first|(with_reducible first|exact ak|apply au|apply ay|apply aA|apply aB)|(exact Or.inl rfl)|(right;simp;done)))⟩
def nY(ns:List Int)(t:Int):Array Value:=(ints ns++[Value.int .i64 t,Value.bool true]).toArray
def AU(w:World)(b:Nat)(ns:List Int)(t:Int):Prop:=Has w b 161 (nY ns t)
structure zO(ns:List Int)(t:Int):Prop where
 len:ns.length=4
 ns:∀n∈ns,0<=n/\n<=1073741824
 t:0<=t/\t<=1073741824
theorem Lu{ns:List Int}{t n:Int}{i:Nat}(h:ns[i]? =some n):(nY ns t)[i]? =some (.int .i64 n):=by have hi:=(lD0.1 h).1;unfold nY;rw[lF0,List.getElem?_append_left (by simpa using hi),List.getElem?_map,h];rfl
theorem RF{ns:List Int}{t:Int}(h:ns.length=4):(nY ns t)[4]? =some (.int .i64 t):=by unfold nY;rw[lF0,List.getElem?_append_right (by simp[h]),List.length_map,h];rfl
theorem RG{ns:List Int}{t:Int}(h:ns.length=4):(nY ns t)[5]? =some (.bool true):=by unfold nY;rw[lF0,List.getElem?_append_right (by simp[h]),List.length_map,h];rfl
theorem I4{ns:List Int}{t n:Int}{i:Nat}(h:i<ns.length):(nY ns t).setIfInBounds i (.int .i64 n)=nY (ns.set i n) t:=by unfold nY;rw[List.setIfInBounds_toArray,List.set_append_left _ _ (by simpa using h)];unfold ints;rw[List.map_set]
theorem RH{ns:List Int}{t n:Int}(h:ns.length=4):(nY ns t).setIfInBounds 4 (.int .i64 n)=nY ns n:=by unfold nY;rw[List.setIfInBounds_toArray,List.set_append_right _ _ (by simp[h]),List.length_map,h];rfl
theorem CB(w:World):Calls Tryz.prog 55 #[] w fun e w'=>e=.returned (.pointer (some ⟨w.heap.size,0,none⟩))/\AU w' w.heap.size [0,0,0,0] 0/\Kept aj w w':=by go_enter Tryz.func55,Tryz.ntmps55;go_wp2;go_ret;exact⟨rfl,Has.new _ _ _,by(repeat'(first|(with_reducible first|exact ak|apply au|apply ay|apply aA|apply aB)|(right;simp;done)))⟩
theorem xq{w:World}{b:Nat}{ns:List Int}{t:Int}(h:AU w b ns t)(ho:ns.length=4):Calls Tryz.prog 98 #[.pointer (some ⟨b,0,none⟩)] w fun e w'=>e=.returned (.bool false)/\w=w':=by
 have q:w.cell? ⟨b,5,none⟩=some (.bool true):=by rw[Has.cell h];exact RG ho
 clear h ho;go_enter Tryz.func98,Tryz.ntmps98;go_wp2;go_ret;exact⟨rfl,rfl⟩
theorem aa7(w:World)(i:Int):Calls Tryz.prog 165 #[.int .i64 i] w fun e w'=>e=.returned (.bool (decide (0<=i/\i<4)))/\w=w':=by
 by_cases h1:0<=i
 ·by_cases h2:i<4
  ·rw[decide_eq_true (by omega)];go_enter Tryz.func165,Tryz.ntmps165;go_wp2;go_ret;exact⟨rfl,rfl⟩
  ·rw[decide_eq_false (by omega)];go_enter Tryz.func165,Tryz.ntmps165;go_wp2;go_ret;exact⟨rfl,rfl⟩
 ·rw[decide_eq_false (by omega)];go_enter Tryz.func165,Tryz.ntmps165;go_wp2;go_ret;exact⟨rfl,rfl⟩
theorem LC{w:World}{b:Nat}{ns:List Int}{t:Int}(h:AU w b ns t)(ho:zO ns t)(i:Nat)(hi:i<4):Calls Tryz.prog 92 #[.pointer (some ⟨b,0,none⟩),.int .i64 i] w fun e w'=>e=.returned (.bool true)/\AU w' b (ns.set i 0) t/\Kept (fun k=>k=b) w w':=by have hn:=xq h ho.len;have hh:=aa7 w i;rw[decide_eq_true (by omega)]at hh;have hs:=IZ w b i 161 (nY ns t) h (by unfold nY;simp[ho.len];omega) 0;have hp:=Has.put h i (.int .i64 0);rw[I4 (by rw[ho.len];exact hi)]at hp;have HN:=ah hn;have HH:=ah hh;have HS:=ah hs;have HP:=ah hp;clear hn hh hs hp h ho;go_enter Tryz.func92,Tryz.ntmps92;go_wp2_with fail;refine HN.out.mono ?_;rintro e w2 ⟨rfl,rfl⟩;go_wp2_with fail;refine HH.out.mono ?_;rintro e w2 ⟨rfl,rfl⟩;go_wp2_with fail;refine HS.out.mono ?_;rintro e w2 ⟨rfl,rfl⟩;go_wp2;go_ret;exact⟨rfl,HP.out,by(repeat'(first|(with_reducible first|exact ak|apply au|apply ay|apply aA|apply aB)|(exact Or.inl rfl)|(right;simp;done)))⟩
theorem aa8{ns:List Int}{i:Nat}{n:Int}(h:ns[i]? =some n):((ns.take i).map bump++ns.drop i).set i (bump n)=(ns.take (i+1)).map bump++ns.drop (i+1):=by obtain⟨hi,he⟩:=lD0.1 h;rw[List.set_append_right _ _ (by simp;omega),List.length_map,List.length_take,Nat.min_eq_left (by omega),Nat.sub_self,List.drop_eq_getElem_cons hi,List.set_cons_zero,List.take_succ_eq_append_getElem hi,he,List.map_append];simp
theorem XF{w:World}{b:Nat}{ns:List Int}{t:Int}(h:AU w b ns t)(ho:zO ns t):Calls Tryz.prog 47 #[.pointer (some ⟨b,0,none⟩)] w fun e w'=>e=.returned (.int .i64 (bump t))/\AU w' b (ns.map bump) (bump t)/\Kept (fun k=>k=b) w w':=by
 have hn:=xq h ho.len;have HN:=ah hn;have HO:=ah ho;have H:=ah h;clear hn ho h;go_enter Tryz.func47,Tryz.ntmps47;go_wp2_with fail;refine HN.out.mono ?_;rintro e w2 ⟨rfl,rfl⟩;go_wp2;go_loopw [6] (fun v wr=>∃i:Nat,i<=4/\v=.int .i64 i/\AU wr b ((ns.take i).map bump++ns.drop i) t/\Kept (fun k=>k=b) w wr) (fun v _=>4-(intOf v).toNat)
 case atStart=>exact⟨0,by omega,rfl,by simpa using H.out,Kept.refl _ _⟩
 case round=>
  obtain⟨i,hi,rfl,hw,hk⟩:=hrel;have HK:=ah hk;clear hk;have hlen:=HO.out.len;by_cases hil:i<4
  ·obtain⟨n,hn⟩:∃n,ns[i]? =some n:=⟨_,lB0 (by omega)⟩;have hnb:=HO.out.ns n (lC0 hn);have hni:((ns.take i).map bump++ns.drop i)[i]? =some n:=by rw[List.getElem?_append_right (by simp;omega),List.length_map,List.length_take,Nat.min_eq_left (by omega),Nat.sub_self,List.getElem?_drop,Nat.add_zero,hn]
   have hm:=OI wr b i 161 _ n hw (Lu hni) hnb;rw[I4 (by simp;omega),aa8 hn]at hm;have HM:=ah hm;clear hn hnb hni hm hw hlen;go_wp2_with fail;refine HM.out.mono ?_;rintro e w3 ⟨rfl,hw3,hk3⟩;have HW3:=ah hw3;have bu:=ah (HK.out.then hk3);clear hw3 hk3;go_wp2;go_roundw
   case rel=>exact⟨i+1,by omega,by go_num,HW3.out,bu.out⟩
   case measure=>simp[intOf];omega
  ·obtain rfl:i=4:=by omega
   have hns:(ns.take 4).map bump++ns.drop 4=ns.map bump:=by rw[<-hlen,List.take_length,List.drop_length,List.append_nil]
   rw[hns]at hw;have hm:=OI wr b 4 161 _ t hw (RF (by simpa using hlen)) HO.out.t;rw[RH (by simpa using hlen)]at hm;have HM:=ah hm;clear hm hw hlen hns;go_wp2_with fail;refine HM.out.mono ?_;rintro e w3 ⟨rfl,hw3,hk3⟩;have HW3:=ah hw3;have bu:=ah (HK.out.then hk3);clear hw3 hk3;go_wp2;go_ret;exact⟨rfl,HW3.out,bu.out⟩
def rC(ns:List Int)(i:Nat):List Int:=((List.range i).filter fun k=>decide (6<=ns.getD k 0)).map fun k:Nat=>(k:Int)
def zQ(ns:List Int):List Int:=rC ns 4
theorem RJ{ns:List Int}{i:Nat}{n:Int}(h:ns[i]? =some n):rC ns (i+1)=if 6<=n then rC ns i++[(i:Int)]else rC ns i:=by
 have hg:ns.getD i 0=n:=by rw[List.getD_eq_getElem?_getD,h];rfl
 unfold rC;rw[List.range_succ,List.filter_append,List.map_append];by_cases h6:6<=n
 ·rw[if_pos h6,List.filter_cons,hg,if_pos (decide_eq_true h6)];rfl
 ·rw[if_neg h6,List.filter_cons,hg,if_neg (by simpa using h6)];simp
theorem I5(ns:List Int)(i:Nat):(rC ns i).length<=i:=by unfold rC;rw[List.length_map];exact Nat.le_trans (List.length_filter_le _ _) (by simp)
theorem aF.pushed{e:TypeId}{size n c n' c':Nat}{w0 w w1 w':World}{A A':Option Addr}{xs ys:List Value}(h:aF e size w0.heap.size w A n c xs)(hk1:Kept aj w0 w1)(ho:w'.ownsRow 0 e size (.slice A' n' c') n' ys)
  (hg:w1.grownBy w' (Value.slice A n c).ownBlock) (ha:(Value.slice A' n' c').ownBlock=(Value.slice A n c).ownBlock\/(Value.slice A' n' c').ownBlock=some w1.heap.size):aF e size w0.heap.size w' A' n' c' ys/\Kept aj w0 w':=
 ⟨h.snoc hk1.size ho ha,hk1.grownBy hg fun k hk=> .inr (h.2 k hk)⟩
theorem aF.nil(e:TypeId)(size B:Nat)(w:World):aF e size B w none 0 0 []:=⟨⟨by simp,.inl ⟨rfl,rfl⟩⟩,fun k hk=>by simp[Value.ownBlock]at hk⟩
def OJ(w:World)(ns:List Int)(e:Ending)(w':World):Prop:=∃A c,e=.returned (.slice A (zQ ns).length c)/\aF 3 1 w.heap.size w' A (zQ ns).length c (ints (zQ ns))/\Kept aj w w'
theorem aa9{w:World}{b:Nat}{ns:List Int}{t:Int}(h:AU w b ns t)(ho:zO ns t):Calls Tryz.prog 173 #[.pointer (some ⟨b,0,none⟩)] w (OJ w ns):=by
 have hn:=xq h ho.len;have HN:=ah hn;have HO:=ah ho;have H:=ah h;clear hn ho h;go_enter Tryz.func173,Tryz.ntmps173;go_wp2_with fail;refine HN.out.mono ?_;rintro e w2 ⟨rfl,rfl⟩;go_wp2;go_loopw [3,7] (fun v3 v7 wr=>∃(i:Nat) (A:Option Addr) (c:Nat),i<=4/\v7=.int .i64 i/\v3=.slice A (rC ns i).length c/\aF 3 1 w.heap.size wr A (rC ns i).length c (ints (rC ns i))/\Kept aj w wr) (fun _ v7 _=>4-(intOf v7).toNat)
 case atStart=>exact⟨0,none,0,by omega,rfl,rfl,aF.nil _ _ _ _,Kept.refl _ _⟩
 case round=>
  obtain⟨i,A,c,hi,rfl,rfl,hrow,hk⟩:=hrel;have hlen:=HO.out.len;by_cases hil:i<4
  ·obtain⟨n,hn⟩:∃n,ns[i]? =some n:=⟨_,lB0 (by omega)⟩;have hs:=RJ hn;have hll:=I5 ns i;have hw:wr.cell? ⟨b,i,none⟩=some (.int .i64 n):=by rw[Has.cell (H.out.kept hk (fun z=>z))];exact Lu hn
   have hl:=XE wr b i n hw;obtain⟨L,hL⟩:∃L,rC ns i=L:=⟨_,rfl⟩;rw[hL]at hs hrow hll⊢;have bZ:=ah hrow;have HK:=ah hk;have HL:=ah hl;have HS:=ah hs;clear hn hs hw hl hL hrow hk hlen;by_cases h6:6<=n
   ·have hs6:=HS.out;rw[if_pos h6]at hs6;have oZ:=ah hs6;clear hs6 HS;go_wp2_with fail;refine HL.out.mono ?_;rintro e w3 ⟨rfl,rfl⟩;have gU:Hid (L.length+1<=maxLen):=ah (by unfold maxLen;omega);go_wp2_with (at_builtin;refine aN jS (.tmp 17) (.tmp 19) rfl rfl (Value.slice A L.length c) rfl (aC bZ.out.1 (F:=aj) (by(repeat'(first|(with_reducible first|exact ak|apply au|apply ay|apply aA|apply aB)|(right;simp;done)))) (fun _ _ x=>x)) 1 rfl (Src.dA (t:=3) (size:=1) (m:=1) (cs:=#[.int .i64 i]) (by(repeat (with_reducible first|exact Has.bK _ _ _ (by simp)|apply Has.drew|apply Has.drewN|apply Has.alloc|(apply Has.past<;>(try omega))))) rfl) (by simp[Value.oneCell']) gU.out (by omega) ?_;intro A1 c1 w9 ho1 hg1 ha1;have hpush:=aF.pushed bZ.out (by(repeat'(first|(with_reducible first|exact ak|apply au|apply ay|apply aA|apply aB)|(exact HK.out)|(right;simp;done)))) ho1 hg1 ha1;have HP:=ah hpush;clear ho1 hg1 ha1 hpush);go_roundw
    case rel=>exact⟨i+1,A1,c1,by omega,by go_num,by rw[oZ.out,lA0];rfl,by rw[oZ.out];simpa [ints]using HP.out.1,HP.out.2⟩
    case measure=>simp[intOf];omega
   ·have hs6:=HS.out;rw[if_neg h6]at hs6;have oZ:=ah hs6;clear hs6 HS;go_wp2_with fail;refine HL.out.mono ?_;rintro e w3 ⟨rfl,rfl⟩;go_wp2;go_roundw
    case rel=>exact⟨i+1,A,c,by omega,by go_num,by rw[oZ.out],by rw[oZ.out];exact bZ.out,HK.out⟩
    case measure=>simp[intOf];omega
  ·obtain rfl:i=4:=by omega
   have bZ:=ah hrow;have HK:=ah hk;clear hrow hk;go_wp2;go_ret;exact⟨A,c,rfl,bZ.out,HK.out⟩
end jQ
namespace Mst
open aJ Vn
theorem jS:Elem Tryz.prog 71 3 1 8:=by obtain⟨i0,hi,hz0,hz1,hz2⟩:=info_parts (show(Tryz.prog.info? 3).map (fun i=>(i.zero,i.size,i.bytes))=some (some (.int .i64 0),1,8) by kernel_rfl);exact⟨Tryz.underlying71,⟨i0,_,hi,hz0,hz1,hz2,rfl⟩,by decide⟩
theorem aa'(l:List Int):∀u∈ints l,u.oneCell'=true:=by intro u hu;obtain⟨x,_,hx⟩:=List.mem_map.1 hu;rw[<-hx];rfl
def Et(w:World)(l:List Int)(e:Ending)(w':World):Prop:=
 ∃A c,e=.returned (.slice A l.length c)/\aF 3 1 w.heap.size w' A l.length c (ints l)/\Kept aj w w'
theorem zh(w:World)(A:Option Addr)(c:Nat)(l:List Int)(hl:Src w 1 A l.length (ints l))(hlen:l.length<=1000000):
  Calls Tryz.prog 124 #[.slice A l.length c] w (Et w l):=by
 have hnil:∀W n' c',(binOp .eql 71 (.slice A l.length c) (.slice none n' c')).run Tryz.prog W=.ok (.bool A.isNone) W:=fun W n' c'=>Lib.run_eql_slice_nil W _ _ A _ _ _ _ Tryz.underlying71;cases A with
 |none=>
  have h0:l.length=0:=by
   rcases Nat.eq_zero_or_pos l.length with h|h
   ·exact h
   ·obtain⟨ad,h1,_⟩:=hl.2 h;cases h1
  obtain rfl:l=[]:=lE0 h0;clear h0 hl;simp only[Option.isNone_none,List.length_nil]at hnil⊢;go_enter Tryz.func124,Tryz.ntmps124;go_wp2;go_ret;exact⟨none,0,rfl,⟨⟨rfl,.inl ⟨rfl,rfl⟩⟩,fun k hk=>by cases hk⟩,Kept.refl _ _⟩
 |some ad=>
  simp only[Option.isNone_some]at hnil;have hm1:0+l.length<=maxLen:=by unfold maxLen;omega
  have hm2:(0+l.length)*8<=140737488355328:=by omega
  have gU:=ah hm1;clear hm1;have iT:=ah hm2;clear hm2;have HL:=ah hl;clear hl;go_enter Tryz.func124,Tryz.ntmps124;go_wp2_with (at_builtin;refine aN jS (.tmp 5) (.tmp 6) rfl rfl (Value.slice (some ⟨w.heap.size,0,none⟩) 0 0) rfl (uj (Has.new w 3 #[]) rfl) c rfl (HL.out.kept ((Kept.refl aj w).alloc _) (fun _ _ x=>x)) (aa' l) gU.out iT.out ?_;intro A1 c1 w1 ho1 hg1 ha1;simp only[Nat.zero_add,List.nil_append]at ho1 ha1;have hk1:Kept aj w w1:=((Kept.refl aj w).alloc _).grown hg1 (fun k hk=> .inr (vV hk (Nat.le_refl _)));have uw:=ah (And.intro ho1 (And.intro ha1 hk1));clear ho1 hg1 ha1 hk1);go_ret;refine⟨A1,c1,by simp,⟨uw.out.1,fun k hk=> ?_⟩,uw.out.2.2⟩;rcases uw.out.2.1 with e|e
  ·exact vV (e.symm.trans hk) (Nat.le_refl _)
  ·rw[hk]at e;injection e with e;simp at e;omega
theorem oH:Elem Tryz.prog 22 56 2 16:=by obtain⟨i0,hi,hz0,hz1,hz2⟩:=info_parts (show(Tryz.prog.info? 56).map (fun i=>(i.zero,i.size,i.bytes))=some (some (.agg #[.int .i64 0,.int .i64 0]),2,16) by kernel_rfl);exact⟨Tryz.underlying22,⟨i0,_,hi,hz0,hz1,hz2,rfl⟩,by decide⟩
theorem UO(l:List Mem):∀u∈aU l,u.oneCell'=true:=by
 intro u hu;obtain⟨x,_,hx⟩:=List.mem_flatMap.1 hu;have h2:u=.int .i64 x.1\/u=.int .i64 x.2:=by simpa [FO]using hx
 rcases h2 with rfl|rfl<;>rfl
def afk(w:World)(l:List Mem)(e:Ending)(w':World):Prop:=
 ∃A c,e=.returned (.slice A l.length c)/\aF 56 2 w.heap.size w' A l.length c (aU l)/\Kept aj w w'
theorem OL(w:World)(A:Option Addr)(c:Nat)(l:List Mem)(hl:Src w 2 A l.length (aU l))(hlen:l.length<=1000000):
  Calls Tryz.prog 155 #[.slice A l.length c] w (afk w l):=by
 have hnil:∀W n' c',(binOp .eql 22 (.slice A l.length c) (.slice none n' c')).run Tryz.prog W=.ok (.bool A.isNone) W:=fun W n' c'=>Lib.run_eql_slice_nil W _ _ A _ _ _ _ Tryz.underlying22;cases A with
 |none=>
  have h0:l.length=0:=by
   rcases Nat.eq_zero_or_pos l.length with h|h
   ·exact h
   ·obtain⟨ad,h1,_⟩:=hl.2 h;cases h1
  obtain rfl:l=[]:=lE0 h0;clear h0 hl;simp only[Option.isNone_none,List.length_nil]at hnil⊢;go_enter Tryz.func155,Tryz.ntmps155;go_wp2;go_ret;exact⟨none,0,rfl,⟨⟨rfl,.inl ⟨rfl,rfl⟩⟩,fun k hk=>by cases hk⟩,Kept.refl _ _⟩
 |some ad=>
  simp only[Option.isNone_some]at hnil;have hm1:0+l.length<=maxLen:=by unfold maxLen;omega
  have hm2:(0+l.length)*16<=140737488355328:=by omega
  have gU:=ah hm1;clear hm1;have iT:=ah hm2;clear hm2;have HL:=ah hl;clear hl;go_enter Tryz.func155,Tryz.ntmps155;go_wp2_with (at_builtin;refine aN oH (.tmp 5) (.tmp 6) rfl rfl (Value.slice (some ⟨w.heap.size,0,none⟩) 0 0) rfl (uj (Has.new w 56 #[]) rfl) c rfl (HL.out.kept ((Kept.refl aj w).alloc _) (fun _ _ x=>x)) (UO l) gU.out iT.out ?_;intro A1 c1 w1 ho1 hg1 ha1;simp only[Nat.zero_add,List.nil_append]at ho1 ha1;have hk1:Kept aj w w1:=((Kept.refl aj w).alloc _).grown hg1 (fun k hk=> .inr (vV hk (Nat.le_refl _)));have uw:=ah (And.intro ho1 (And.intro ha1 hk1));clear ho1 hg1 ha1 hk1);go_ret;refine⟨A1,c1,by simp,⟨uw.out.1,fun k hk=> ?_⟩,uw.out.2.2⟩;rcases uw.out.2.1 with e|e
  ·exact vV (e.symm.trans hk) (Nat.le_refl _)
  ·rw[hk]at e;injection e with e;simp at e;omega
theorem qN:Elem Tryz.prog 35 53 3 24:=by obtain⟨i0,hi,hz0,hz1,hz2⟩:=info_parts (show(Tryz.prog.info? 53).map (fun i=>(i.zero,i.size,i.bytes))=some (some (.agg #[.int .i64 0,.int .u64 0,.int .i64 0]),3,24) by kernel_rfl);exact⟨Tryz.underlying35,⟨i0,_,hi,hz0,hz1,hz2,rfl⟩,by decide⟩
theorem uY(l:List aO):∀u∈aS l,u.oneCell'=true:=by
 intro u hu;obtain⟨x,_,hx⟩:=List.mem_flatMap.1 hu;have h2:u=.int .i64 x.id\/u=.int .u64 x.at'\/u=.int .i64 x.left:=by simpa [qP]using hx
 rcases h2 with rfl|rfl|rfl<;>rfl
def xu(w:World)(l:List aO)(e:Ending)(w':World):Prop:=
 ∃A c,e=.returned (.slice A l.length c)/\aF 53 3 w.heap.size w' A l.length c (aS l)/\Kept aj w w'
theorem rD(w:World)(A:Option Addr)(c:Nat)(l:List aO)(hl:Src w 3 A l.length (aS l))(hlen:l.length<=1000000):
  Calls Tryz.prog 39 #[.slice A l.length c] w (xu w l):=by
 have hnil:∀W n' c',(binOp .eql 35 (.slice A l.length c) (.slice none n' c')).run Tryz.prog W=.ok (.bool A.isNone) W:=fun W n' c'=>Lib.run_eql_slice_nil W _ _ A _ _ _ _ Tryz.underlying35;cases A with
 |none=>
  have h0:l.length=0:=by
   rcases Nat.eq_zero_or_pos l.length with h|h
   ·exact h
   ·obtain⟨ad,h1,_⟩:=hl.2 h;cases h1
  obtain rfl:l=[]:=lE0 h0;clear h0 hl;simp only[Option.isNone_none,List.length_nil]at hnil⊢;go_enter Tryz.func39,Tryz.ntmps39;go_wp2;go_ret;exact⟨none,0,rfl,⟨⟨rfl,.inl ⟨rfl,rfl⟩⟩,fun k hk=>by cases hk⟩,Kept.refl _ _⟩
 |some ad=>
  simp only[Option.isNone_some]at hnil;have hm1:0+l.length<=maxLen:=by unfold maxLen;omega
  have hm2:(0+l.length)*24<=140737488355328:=by omega
  have gU:=ah hm1;clear hm1;have iT:=ah hm2;clear hm2;have HL:=ah hl;clear hl;go_enter Tryz.func39,Tryz.ntmps39;go_wp2_with (at_builtin;refine aN qN (.tmp 5) (.tmp 6) rfl rfl (Value.slice (some ⟨w.heap.size,0,none⟩) 0 0) rfl (uj (Has.new w 53 #[]) rfl) c rfl (HL.out.kept ((Kept.refl aj w).alloc _) (fun _ _ x=>x)) (uY l) gU.out iT.out ?_;intro A1 c1 w1 ho1 hg1 ha1;simp only[Nat.zero_add,List.nil_append]at ho1 ha1;have hk1:Kept aj w w1:=((Kept.refl aj w).alloc _).grown hg1 (fun k hk=> .inr (vV hk (Nat.le_refl _)));have uw:=ah (And.intro ho1 (And.intro ha1 hk1));clear ho1 hg1 ha1 hk1);go_ret;refine⟨A1,c1,by simp,⟨uw.out.1,fun k hk=> ?_⟩,uw.out.2.2⟩;rcases uw.out.2.1 with e|e
  ·exact vV (e.symm.trans hk) (Nat.le_refl _)
  ·rw[hk]at e;injection e with e;simp at e;omega
theorem LD(w:World)(id:Int):Calls Tryz.prog 153 #[.int .i64 id] w fun e w'=>e=.returned (.func (.func 224) #[] #[.pointer (some ⟨w.heap.size,0,none⟩)])/\w'=w.alloc (.cells #[.int .i64 id] 3):=by go_enter Tryz.func153,Tryz.ntmps153;go_wp2;go_ret;exact⟨rfl,rfl⟩
theorem UQ(w:World)(x:aO)(b:Nat)(id:Int)(hb:Has w b 3 #[.int .i64 id]):
  Calls Tryz.prog 224 #[CJ x,.pointer (some ⟨b,0,none⟩)] w fun e w'=>e=.returned (.bool (decide (x.id=id)))/\Kept aj w w':=by
 have c0:=(hb.alloc (.cells #[.int .i64 x.id,.int .u64 x.at',.int .i64 x.left] 53)).cell 0;simp only[lF0,List.getElem?_cons_zero,List.getElem?_cons_succ]at c0;clear hb;go_enter Tryz.func224,Tryz.ntmps224;go_wp2;go_ret;exact⟨rfl,by(repeat'(first|(with_reducible first|exact ak|apply au|apply ay|apply aA|apply aB)|(right;simp;done)))⟩
def bV(l:List aO)(id:Int):Int:=iF (fun x=>decide (x.id=id)) l 0
theorem OM(w:World)(A:Option Addr)(c:Nat)(l:List aO)(b:Nat)(id:Int)(hb:Has w b 3 #[.int .i64 id])(hl:Src w 3 A l.length (aS l))(hlen:l.length<=1000000):
  Calls Tryz.prog 152 #[.slice A l.length c,.func (.func 224) #[] #[.pointer (some ⟨b,0,none⟩)]] w fun e w'=>e=.returned (.tuple #[.int .i64 (bV l id),.bool (decide (0<=bV l id))])/\Kept aj w w':=by
 have h:=uT w A c l 224 (.pointer (some ⟨b,0,none⟩)) (fun x=>decide (x.id=id)) (fun args W=>enters Tryz.func224 (by kernel_rfl) rfl args W) hl hlen (fun W x hW _=>UQ W x b id (hb.kept hW (fun z=>z)));have hr:iF (fun x=>decide (x.id=id)) l 0=bV l id:=rfl;rw[hr]at h;obtain⟨r,hr⟩:∃r,bV l id=r:=⟨_,rfl⟩;rw[hr]at h⊢;have H:=ah h;clear h hr hl hb;go_enter Tryz.func152,Tryz.ntmps152;go_wp2_with fail;refine H.out.mono ?_;rintro e w2 ⟨rfl,hk⟩;have HK:=ah hk;clear hk;go_wp2;go_ret2;exact⟨by simp,HK.out⟩
end Mst
namespace Mst
open aJ Vn
theorem Ky{w:World}{base:Nat}{e:TypeId}{size c g n j:Nat}{xs:List Value}{u:Value}(h:w.ownsRow base e size (.slice (some ⟨g,0,none⟩) n c) n xs):(w.setCell ⟨g,j,none⟩ u).ownsRow base e size (.slice (some ⟨g,0,none⟩) n c) n (xs.set j u):=by
 refine⟨by rw[List.length_set];exact h.1,?_⟩;rcases h.2 with⟨hv,_⟩|⟨g',cap,cur,hv,hb,hg,hn,hm,hs,htk⟩
 ·cases hv
 ·injection hv with h1 h2 h3;injection h1 with h1;injection h1 with h1;subst h1;subst h3;refine .inr ⟨g,c,cur.setIfInBounds j u,rfl,hb,Has.put (show Has w g e cur from hg) j u,hn,hm,by simpa using hs,?_⟩;rw[Array.toList_setIfInBounds,List.take_set,htk]
theorem I7{α:Type}(p:α->Bool)(l:List α)(i:Nat):(iF p l i= -1/\∀x∈l,p x=false)\/∃k x,iF p l i=((i+k:Nat):Int)/\l[k]? =some x/\p x=true:=by
 induction l generalizing i with
 |nil=>exact .inl ⟨rfl,fun _ h=>by cases h⟩
 |cons a l ih=>
  rw[iF];cases ha:p a
  ·rw[if_neg (by simp)];rcases ih (i+1)with⟨h1,h2⟩|⟨k,x,h1,h2,h3⟩
   ·exact .inl ⟨h1,fun x hx=>by rcases List.mem_cons.1 hx with rfl|hx;exact ha;exact h2 x hx⟩
   ·exact .inr ⟨k+1,x,by rw[h1];congr 1;omega,by simpa using h2,h3⟩
  ·rw[if_pos rfl];exact .inr ⟨0,a,rfl,rfl,ha⟩
theorem jE(l:List aO)(id:Int):bV l id= -1\/∃(k:Nat) (x:aO),bV l id=(k:Int)/\l[k]? =some x/\x.id=id:=by
 rcases I7 (fun x:aO=>decide (x.id=id)) l 0 with⟨h,_⟩|⟨k,x,h1,h2,h3⟩
 ·exact .inl h
 ·exact .inr ⟨k,x,by simpa [bV]using h1,h2,of_decide_eq_true h3⟩
theorem I8{p:aO}:∀(l:List aO) (k:Nat),k<l.length->aS (l.set k p)=(((aS l).set (k*3) (.int .i64 p.id)).set (k*3+1) (.int .u64 p.at')).set (k*3+2) (.int .i64 p.left)
 |[],k,h=>by simp at h
 |a::l,0,h=>rfl
 |a::l,k+1,h=>by
  have ih:=I8 l k (p:=p) (by simpa using h);have e:(k+1)*3=k*3+1+1+1:=by omega
  show Value.int .i64 a.id::Value.int .u64 a.at'::Value.int .i64 a.left::aS (l.set k p)=(((Value.int .i64 a.id::Value.int .u64 a.at'::Value.int .i64 a.left::aS l).set ((k+1)*3) _).set ((k+1)*3+1) _).set ((k+1)*3+2) _;rw[e,ih];rfl
theorem RN(p q:aO)(W:World):(binOp .neq 53 (CJ p) (CJ q)).run Tryz.prog W=.ok (.bool (decide (p≠q))) W:=by obtain⟨p1,p2,p3⟩:=p;obtain⟨q1,q2,q3⟩:=q;by_cases h1:p1=q1<;>by_cases h2:p2=q2<;>by_cases h3:p3=q3<;>simp[go_sem,h1,h2,h3]
def jk(l:List aO)(id:Int):List aO:=match l[(bV l id).toNat]? with
 |some x=>l.set (bV l id).toNat ⟨id,x.at',8⟩
 |none=>l
def Eu(w:World)(l:List aO)(id:Int)(e:Ending)(w':World):Prop:=
 (bV l id<0/\e=.returned (.tuple #[.slice none 0 0,.int .i64 7])/\Kept aj w w')\/
 (0<=bV l id/\∃A c,e=.returned (.tuple #[.slice A (jk l id).length c,.int .i64 0])/\aF 53 3 w.heap.size w' A (jk l id).length c (aS (jk l id))/\Kept aj w w')
theorem LG(w:World)(A:Option Addr)(c:Nat)(l:List aO)(id:Int)(hl:Src w 3 A l.length (aS l))(hlc:l.length<=c)(hlen:l.length<=1000000):
  Calls Tryz.prog 151 #[.slice A l.length c,.int .i64 id] w (Eu w l id):=by
 have hf:=fun W (hW:Kept aj w W) (b:Nat) (hb:Has W b 3 #[.int .i64 id])=>OM W A c l b id hb (hl.kept hW (fun _ _ z=>z)) hlen;have hwh:=LD w id;rcases jE l id with h1|⟨k,x,h1,hx,hid⟩
 ·rw[h1]at hf;have hP:∀w',Kept aj w w'->Eu w l id (.returned (.tuple #[.slice none 0 0,.int .i64 7])) w':=fun w' hk=> .inl ⟨by omega,rfl,hk⟩;have HF:=ah hf;have HP:=ah hP;have Ew:=ah hwh;clear hf hP hwh hl h1;go_enter Tryz.func151,Tryz.ntmps151;go_wp2_with fail;refine Ew.out.mono ?_;rintro e w1 ⟨rfl,rfl⟩;go_wp2_with fail;refine(HF.out _ (by(repeat'(first|(with_reducible first|exact ak|apply au|apply ay|apply aA|apply aB)|(right;simp;done)))) w.heap.size (Has.new w 3 #[.int .i64 id])).mono ?_;rintro e w2 ⟨rfl,hk⟩;have hk2:=Kept.then (F:=aj) (a:=w) (by(repeat'(first|(with_reducible first|exact ak|apply au|apply ay|apply aA|apply aB)|(right;simp;done)))) hk;have HK:=ah hk2;clear hk hk2;go_wp2;go_ret2;exact HP.out _ HK.out
 ·rw[h1]at hf;have hkl:k<l.length:=(lD0.1 hx).1;have hcl:=fun W (hW:Kept aj w W)=>rD W A c l (hl.kept hW (fun _ _ z=>z)) hlen;obtain⟨ad,rfl,had,x0,x1,x2⟩:=iL hl (by omega) k x hx;have hxk:=fun W (hW:Kept aj w W)=>iL (hl.kept hW (fun _ _ z=>z)) (by omega) k x hx;have hP:∀w' A c,aF 53 3 w.heap.size w' A l.length c (aS (l.set k ⟨id,x.at',8⟩))->Kept aj w w'->Eu w l id (.returned (.tuple #[.slice A l.length c,.int .i64 0])) w':=fun w' A c hn hk=>by
   have e1:jk l id=l.set k ⟨id,x.at',8⟩:=by unfold jk;rw[h1,Int.toNat_natCast,hx]
   refine .inr ⟨by omega,A,c,?_,?_,hk⟩
   ·rw[e1,List.length_set]
   ·rw[e1,List.length_set];exact hn
  have HF:=ah hf;have HP:=ah hP;have Ew:=ah hwh;have HC:=ah hcl;have HX:=ah (And.intro hx hid);have HXK:=ah hxk;clear hf hP hwh hl h1 x0 x1 x2 hcl hx hid hxk;have b0:(0:Int)<=(k:Int):=by omega
  have b1:(k:Int)<(l.length:Int):=by omega
  go_enter Tryz.func151,Tryz.ntmps151;go_wp2_with fail;refine Ew.out.mono ?_;rintro e w1 ⟨rfl,rfl⟩;go_wp2_with fail;refine(HF.out _ (by(repeat'(first|(with_reducible first|exact ak|apply au|apply ay|apply aA|apply aB)|(right;simp;done)))) w.heap.size (Has.new w 3 #[.int .i64 id])).mono ?_;rintro e w2 ⟨rfl,hk⟩;have hk2:=Kept.then (F:=aj) (a:=w) (by(repeat'(first|(with_reducible first|exact ak|apply au|apply ay|apply aA|apply aB)|(right;simp;done)))) hk;have HK:=ah hk2;clear hk hk2;go_wp2_with fail;refine(HC.out _ HK.out).mono ?_;rintro e w3 ⟨A1,c1,rfl,hn,hk⟩;have hk3:=HK.out.then hk;obtain⟨ad',e1,had,x0,x1,x2⟩:=HXK.out _ hk3;injection e1 with e1;subst e1;have bu:=ah hk3;clear hk3;have HS2:=ah HK.out.size;clear HK;obtain⟨rb,cap,hv,_,hrl⟩:=hn.1.form (by omega);injection hv with hA _ hC;subst hA;subst hC;obtain⟨DV,e2,aiL,y0,y1,y2⟩:=iL (Src.bF hn.1) (by omega) k x HX.out.1;injection e2 with e2;subst e2;have hneq:=RN x ⟨id,x.at',8⟩;obtain⟨t,ht⟩:∃t,decide (x≠⟨id,x.at',8⟩)=t:=⟨_,rfl⟩;rw[ht]at hneq;have HT:=ah ht;clear ht;obtain⟨W4,zS⟩:∃W4,w3.alloc (.cells #[.int .i64 id,.int .u64 x.at',.int .i64 8] 53)=W4:=⟨_,rfl⟩;have hk4:Kept aj w3 W4:=by rw[<-zS];(repeat'(first|(with_reducible first|exact ak|apply au|apply ay|apply aA|apply aB)|(right;simp;done)))
  obtain⟨aiM,e2',ag2,y0',y1',y2'⟩:=iL (Src.bF (aC (F:=aj) hn.1 hk4 (fun _ _ z=>z))) (by omega) k x HX.out.1;injection e2' with e2';subst e2';have ha:(⟨rb,0,none⟩:Addr).add (k*3)=⟨rb,k*3,none⟩:=by rw[Addr.add_lit,Nat.zero_add]
  rw[ha]at y0' y1' y2';dsimp only at y1' y2' ag2;have XG:Has W4 w3.heap.size 53 #[.int .i64 id,.int .u64 x.at',.int .i64 8]:=by rw[<-zS];exact Has.new _ _ _
  have z0:=XG.cell 0;have z1:=XG.cell 1;have z2:=XG.cell 2;simp only[lF0,List.getElem?_cons_zero,List.getElem?_cons_succ]at z0 z1 z2;have hcur:∃cur,Has W4 rb 53 cur:=by
   rcases(aC (F:=aj) hn.1 hk4 (fun _ _ z=>z)).2 with⟨hv,_⟩|⟨g',cap,cur,hv,hb,hg,_⟩
   ·cases hv
   ·injection hv with h1 h2 h3;injection h1 with h1;injection h1 with h1;exact⟨cur,by rw[h1];exact hg⟩
  obtain⟨cur,hcur⟩:=hcur;have f0:=hcur.frozen (k*3);have f1:=hcur.frozen (k*3+1);have f2:=hcur.frozen (k*3+2);clear hcur;have HN:=ah hn;clear hn;have HKK:=ah hk;clear hk;have HB9:=ah XG;clear XG;have eY:=ah hk4;clear hk4;go_wp2_with fail;clear zS;go_quiet (fail);cases t
  ·have hx2:=of_decide_eq_false HT.out;simp only[ne_eq,Classical.not_not]at hx2;have hset:l.set k ⟨id,x.at',8⟩=l:=by obtain⟨h1,h2⟩:=lD0.1 HX.out.1;rw[<-hx2,<-h2];exact List.set_getElem_self h1
   have HS:=ah hset;clear hset hx2;go_wp2;go_ret2;refine HP.out _ _ _ ?_ ((bu.out.then eY.out).drewN _);rw[HS.out];exact⟨aC (F:=aj) HN.out.1 (eY.out.drewN _) (fun _ _ z=>z),fun g hg=>by have h1:=HN.out.2 g hg;have h2:=HS2.out;omega⟩
  ·go_wp2;go_ret2;refine HP.out _ _ _ ⟨?_,fun g hg=>by have h1:=HN.out.2 g hg;have h2:=HS2.out;omega⟩ ?_
   ·rw[I8 l k hkl];exact Ky (Ky (Ky (aC (F:=aj) HN.out.1 (eY.out.drewN _) (fun _ _ z=>z))))
   ·have hnew:∀j u W,Kept aj w W->Kept aj w (W.setCell ⟨rb,j,none⟩ u):=fun j u W hW=>hW.put (by have h1:=HN.out.2 rb rfl;have h2:=HS2.out;omega);exact hnew _ _ _ (hnew _ _ _ (hnew _ _ _ ((bu.out.then eY.out).drewN _)))
end Mst
namespace Mst
open aJ Vn
theorem AV(w:World)(x:Mem)(b:Nat)(id:Int)(hb:Has w b 3 #[.int .i64 id]):
  Calls Tryz.prog 222 #[jH x,.pointer (some ⟨b,0,none⟩)] w fun e w'=>e=.returned (.bool (decide (x.1=id)))/\Kept aj w w':=by
 have c0:=(hb.alloc (.cells #[.int .i64 x.1,.int .i64 x.2] 56)).cell 0;simp only[lF0,List.getElem?_cons_zero,List.getElem?_cons_succ]at c0;clear hb;go_enter Tryz.func222,Tryz.ntmps222;go_wp2;go_ret;exact⟨rfl,by(repeat'(first|(with_reducible first|exact ak|apply au|apply ay|apply aA|apply aB)|(right;simp;done)))⟩
theorem oM(w:World)(ep fl:Int)(A:Option Addr)(c:Nat)(l:List Mem)(id:Int)(hl:Src w 2 A l.length (aU l))(hlen:l.length<=1000000):
  Calls Tryz.prog 149 #[nC ep A l.length c fl,.int .i64 id] w fun e w'=>e=.returned (.bool (cO l id))/\Kept aj w w':=by
 have h:=fun W b (hW:Kept aj w W) (hb:Has W b 3 #[.int .i64 id])=>CS W A c l 222 (.pointer (some ⟨b,0,none⟩)) (fun x=>decide (x.1=id)) (fun args W=>enters Tryz.func222 (by kernel_rfl) rfl args W) (hl.kept hW (fun _ _ z=>z)) hlen
  (fun W2 x hW2 _=>AV W2 x b id (hb.kept hW2 (fun z=>z)))
 have hr:(l.any fun x=>decide (x.1=id))=cO l id:=rfl;rw[hr]at h;obtain⟨r,hr⟩:∃r,cO l id=r:=⟨_,rfl⟩;rw[hr]at h⊢;have H:=ah h;clear h hr hl;go_enter Tryz.func149,Tryz.ntmps149;go_wp2_with fail;refine(H.out _ (w.heap.size+1) (by(repeat'(first|(with_reducible first|exact ak|apply au|apply ay|apply aA|apply aB)|(right;simp;done)))) (Has.bK _ _ _ (by simp))).mono ?_;rintro e w2 ⟨rfl,hk⟩;have hk2:=Kept.then (F:=aj) (a:=w) (by(repeat'(first|(with_reducible first|exact ak|apply au|apply ay|apply aA|apply aB)|(right;simp;done)))) hk;have HK:=ah hk2;clear hk hk2;go_wp2;go_ret;exact⟨rfl,HK.out⟩
def uy(w:World)(ep fl:Int)(l:List Mem)(e:Ending)(w':World):Prop:=
 ∃A c,e=.returned (nC ep A l.length c fl)/\aF 56 2 w.heap.size w' A l.length c (aU l)/\Kept aj w w'
theorem Kz(w:World)(ep fl:Int)(A:Option Addr)(c:Nat)(l:List Mem)(hl:Src w 2 A l.length (aU l))(hlen:l.length<=1000000):
  Calls Tryz.prog 86 #[nC ep A l.length c fl] w (uy w ep fl l):=by
 have h:=fun W (hW:Kept aj w W)=>OL W A c l (hl.kept hW (fun _ _ z=>z)) hlen;have hP:∀w' A c,aF 56 2 w.heap.size w' A l.length c (aU l)->Kept aj w w'->uy w ep fl l (.returned (nC ep A l.length c fl)) w':=fun w' A c h1 h2=>⟨A,c,rfl,h1,h2⟩;have H:=ah h;have HP:=ah hP;clear h hl hP;go_enter Tryz.func86,Tryz.ntmps86;go_wp2_with fail;refine(H.out _ (by(repeat'(first|(with_reducible first|exact ak|apply au|apply ay|apply aA|apply aB)|(right;simp;done))))).mono ?_;rintro e w2 ⟨A1,c1,rfl,hn,hk⟩;have hb1:=((Has.new w 25 #[.int .i64 ep,.slice A l.length c,.int .u64 fl]).alloc (.cells #[.int .i64 0,.slice none 0 0,.int .u64 0] 25)).kept hk (fun z=>z);have hb2:=(Has.bK (w.alloc (.cells #[.int .i64 ep,.slice A l.length c,.int .u64 fl] 25)) 25 #[.int .i64 0,.slice none 0 0,.int .u64 0] (g:=w.heap.size+1) (by simp)).kept hk (fun z=>z);have hk2:=Kept.then (F:=aj) (a:=w) (by(repeat'(first|(with_reducible first|exact ak|apply au|apply ay|apply aA|apply aB)|(right;simp;done)))) hk;have c0:=hb1.cell 0;have c1':=hb1.cell 1;have c2:=hb1.cell 2;have f0:=hb1.frozen 1;have d0:=hb2.cell 0;have d1:=hb2.cell 1;have d2:=hb2.cell 2;have g0:=hb2.frozen 0;have g1:=hb2.frozen 1;have g2:=hb2.frozen 2;simp only[lF0,List.getElem?_cons_zero,List.getElem?_cons_succ]at c0 c1' c2 d0 d1 d2;have HK:=ah hk2;have HN:=ah hn;have HB:=ah (And.intro hb1 hb2);clear hk hk2 hn hb1 hb2;go_wp2;have hfin:=(((HB.out.2.past (b:=w.heap.size) (i:=1) (u:=Value.slice A1 l.length c1) (by omega)).put 0 (Value.int .i64 ep)).put 1 (Value.slice A1 l.length c1)).put 2 (Value.int .u64 fl);refine bodyPost_ret (results_cell_row rfl _ _ (w.heap.size+1) 25 _ (0,0) _ rfl hfin Tryz.underlying25 rfl (by kernel_rfl)) rfl ?_;have hk9:∀W (j i:Nat) u,Kept aj w W->Kept aj w (W.setCell ⟨w.heap.size+j,i,none⟩ u):=fun W j i u hW=>hW.put (.inr (by omega));refine HP.out _ _ _ ⟨?_,fun g hg=>by have h1:=HN.out.2 g hg;have h2:=HK.out.size;simp only[size_alloc]at h1;omega⟩ (hk9 _ 1 _ _ (hk9 _ 1 _ _ (hk9 _ 1 _ _ (hk9 _ 0 _ _ HK.out))));refine aC (F:=fun k=>k=w.heap.size\/k=w.heap.size+1) HN.out.1 ((((((Kept.refl _ _).put (.inl (.inl rfl))).put (.inl (.inr rfl))).put (.inl (.inr rfl)))).put (.inl (.inr rfl))) (fun g hg hF=> ?_);have h1:=HN.out.2 g hg;simp only[size_alloc]at h1;omega
end Mst
namespace Mst
open aJ Vn
structure bQ where
 ep:Int
 ms:List Mem
 fl:Int
 lg:List Int
 hz:Int
 pins:List aO
 top:Int
 t0:kP
 t1:kP
 t2:kP
abbrev dL(s:bQ)(mA:Option Addr)(mc:Nat)(lA:Option Addr)(lc:Nat)(pA:Option Addr)(pc:Nat)(made:Bool):Array Value:=
 #[.int .i64 s.ep,.slice mA s.ms.length mc,.int .u64 s.fl,.slice lA s.lg.length lc,.int .u64 s.hz,.slice pA s.pins.length pc,.int .i64 s.top,.int .i64 s.t0.cl,.int .i64 s.t0.req,.int .i64 s.t0.e,.int .i64 s.t0.pin,
  .int .i64 s.t1.cl,.int .i64 s.t1.req,.int .i64 s.t1.e,.int .i64 s.t1.pin,.int .i64 s.t2.cl,.int .i64 s.t2.req,.int .i64 s.t2.e,.int .i64 s.t2.pin,.bool made]
def jV:kP:=⟨0,0,0,0⟩
def st0:bQ:=⟨0,[],0,[],0,[],0,jV,jV,jV⟩
theorem dZ(w:World)(b:Nat)(s:bQ)(mA:Option Addr)(mc:Nat)(lA:Option Addr)(lc:Nat)(pA:Option Addr)(pc:Nat)(made:Bool)(hb:Has w b 121 (dL s mA mc lA lc pA pc made)):
  Calls Tryz.prog 65 #[.pointer (some ⟨b,0,none⟩)] w fun e w'=>e=.returned (.bool (!made))/\Kept aj w w':=by
 have c19:=hb.cell 19;simp only[lF0,List.getElem?_cons_zero,List.getElem?_cons_succ]at c19;clear hb;go_enter Tryz.func65,Tryz.ntmps65;go_wp2;go_ret;exact⟨by simp,by(repeat'(first|(with_reducible first|exact ak|apply au|apply ay|apply aA|apply aB)|(right;simp;done)))⟩
theorem new_any(w:World):Calls Tryz.prog 54 #[] w fun e w'=>e=.returned (.pointer (some ⟨w.heap.size,0,none⟩))/\Has w' w.heap.size 121 (dL st0 none 0 none 0 none 0 true)/\Kept aj w w':=by go_enter Tryz.func54,Tryz.ntmps54;go_wp2;go_ret;exact⟨rfl,Has.new _ _ _,by(repeat'(first|(with_reducible first|exact ak|apply au|apply ay|apply aA|apply aB)|(right;simp;done)))⟩

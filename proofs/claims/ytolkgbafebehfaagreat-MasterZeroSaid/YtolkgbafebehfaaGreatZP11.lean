/- Part 12 of what the proof needs. -/
import Derived.Test.YtolkgbafebehfaaGreatZP06
import Derived.StillTailTactics
set_option linter.unusedSimpArgs false
set_option linter.unusedVariables false
set_option maxHeartbeats 32000000
set_option maxRecDepth 100000
namespace Go.Proofs.YtolkgbafebehfaaGreat
open Go.RowKit
set_option maxRecDepth 100000
namespace aP
def dP(b:Nat)(w:World)(A:Option Addr)(n c:Nat)(l:List Int):Prop:=
 n=l.length/\w.ownsRow 0 3 1 (.slice A n c) n (ints l)/\∀k,(Value.slice A n c).ownBlock=some k->b<=k
theorem dP.nil(b:Nat)(w:World):dP b w none 0 0 []:=⟨rfl,⟨rfl,.inl ⟨rfl,rfl⟩⟩,fun k hk=>by cases hk⟩
theorem dP.kept{b:Nat}{w w':World}{A:Option Addr}{n c:Nat}{l:List Int}(h:dP b w A n c l)(hk:Kept aj w w'):dP b w' A n c l:=
 ⟨h.1,aC h.2.1 hk (fun _ _ x=>x),h.2.2⟩
theorem dP.snoc{b:Nat}{w w':World}{A A':Option Addr}{n c c':Nat}{l:List Int}{x:Int}(h:dP b w A n c l)(hb:b<=w.heap.size)
  (ho:w'.ownsRow 0 3 1 (.slice A' (n+1) c') (n+1) (ints l++[.int .i64 x]))
  (ha:(Value.slice A' (n+1) c').ownBlock=(Value.slice A n c).ownBlock\/(Value.slice A' (n+1) c').ownBlock=some w.heap.size):dP b w' A' (n+1) c' (l++[x]):=by
 refine⟨by rw[h.1];simp,by simpa [ints]using ho,fun k hk=> ?_⟩
 rcases ha with e|e
 ·exact h.2.2 k (e.symm.trans hk)
 ·rw[hk]at e
  injection e with e
  omega
theorem bT.far{b:Nat}{w w':World}{A:Option Addr}{n c:Nat}{l:List Mem}(h:bT b w A n c l){F:Nat->Prop}(hk:Kept F w w')(hf:∀k,(Value.slice A n c).ownBlock=some k->¬F k):bT b w' A n c l:=
 ⟨h.1,aC h.2.1 hk hf,h.2.2⟩
theorem bT.mono{b b':Nat}{w:World}{A:Option Addr}{n c:Nat}{l:List Mem}(h:bT b w A n c l)(hb:b'<=b):bT b' w A n c l:=⟨h.1,h.2.1,fun k hk=>Nat.le_trans hb (h.2.2 k hk)⟩
theorem bT.ne{b:Nat}{w:World}{A:Option Addr}{n c:Nat}{l:List Mem}(h:bT b w A n c l){g:Nat}{t:TypeId}{cs:Array Value}(hg:Has w g t cs)(hne:53≠t):(Value.slice A n c).ownBlock≠some g:=own_ne h.2.1 hg hne
def eY(N:Next)(A:Option Addr)(n c:Nat)(B:Option Addr)(m d:Nat):Value:=.tuple #[mP N.ep A n c N.fl,.slice B m d,.int .i64 N.e]
def jw(w:World)(N:Next)(e:Ending)(w':World):Prop:=
 ∃A n c B m d,e=.returned (eY N A n c B m d)/\bT w.heap.size w' A n c N.l/\dP w.heap.size w' B m d N.t/\Kept aj w w'
end aP
namespace lJ
open aP Vn
theorem D7(w:World)(b o:Nat)(t:TypeId)(cs:Array Value)(h:Has w b t cs)(ho:o<cs.size)(y:Int):
  Calls Tryz.prog 245 #[.pointer (some ⟨b,o,none⟩),.int .i64 y] w fun e w'=>e=.returned (.tuple #[])/\w'=w.setCell ⟨b,o,none⟩ (.int .i64 y):=by
 have hc:w.cell? ⟨b,o,none⟩=some cs[o]:=by rw[h.cell];exact Array.getElem?_eq_getElem ho
 have hz:=h.frozen o
 have hst:=run_call_store (P:=Tryz.prog) Tryz.func339 (by kernel_rfl) (by kernel_rfl) (by kernel_rfl) (by kernel_rfl) (k:=.i64) (y:=y) hc hz
 clear hc hz h ho
 go_enter Tryz.func245,Tryz.ntmps245
 go_wp2
 go_end0
 exact⟨rfl,rfl⟩
theorem Rl(w:World)(b o:Nat)(x:Int)(h:w.cell? ⟨b,o,none⟩=some (.int .i64 x)):
  Calls Tryz.prog 344 #[.pointer (some ⟨b,o,none⟩)] w fun e w'=>e=.returned (.int .i64 x)/\w=w':=by
 have hst:=run_call_load (P:=Tryz.prog) Tryz.func376 (by kernel_rfl) (by kernel_rfl) (by kernel_rfl) .i64 (by kernel_rfl) h
 clear h
 go_enter Tryz.func344,Tryz.ntmps344
 go_wp2
 go_ret
 exact⟨rfl,rfl⟩
theorem VQ(w:World)(b o:Nat)(t:TypeId)(cs:Array Value)(x:Int)(h:Has w b t cs)(hx:cs[o]? =some (.int .i64 x))(h0:0<=x)(h1:x<=1073741824):
  Calls Tryz.prog 251 #[.pointer (some ⟨b,o,none⟩),.int .i64 1] w fun e w'=>e=.returned (.int .i64 (x+1))/\w'=w.setCell ⟨b,o,none⟩ (.int .i64 (x+1)):=by
 have hc:w.cell? ⟨b,o,none⟩=some (.int .i64 x):=by rw[h.cell];exact hx
 have hz:=h.frozen o
 have hs:(Op.intArith .add .i64 x 1).run Tryz.prog w=.ok (.int .i64 (x+1)) w:=by
  have h2:IntKind.i64.wrap (x+1)=x+1:=IntWalk.i64_in _ (by omega)
  show(Sem.run Tryz.prog (Op.intArith .add .i64 x 1) w)=_
  simp only[Op.intArith]
  rw[h2]
  rfl
 have hst:=run_call_add (P:=Tryz.prog) Tryz.func343 (by kernel_rfl) (by kernel_rfl) (by kernel_rfl) .i64 (by kernel_rfl) hc hz hs
 clear hc hz h hx hs
 go_enter Tryz.func251,Tryz.ntmps251
 go_wp2
 go_ret
 exact⟨rfl,rfl⟩
def bump(n:Int):Int:=if 1073741824<n+1 then 1073741824 else n+1
theorem Nw{n:Int}(h:0<=n/\n<=1073741824):0<=bump n/\bump n<=1073741824:=by
 unfold bump
 split<;>omega
theorem Ja(w:World)(b o:Nat)(t:TypeId)(cs:Array Value)(x:Int)(h:Has w b t cs)(hx:cs[o]? =some (.int .i64 x))(h0:0<=x/\x<=1073741824):
  Calls Tryz.prog 147 #[.pointer (some ⟨b,o,none⟩)] w fun e w'=>e=.returned (.int .i64 (bump x))/\Has w' b t (cs.setIfInBounds o (.int .i64 (bump x)))/\Kept (fun k=>k=b) w w':=by
 have hadd:=VQ w b o t cs x h hx h0.1 h0.2
 have h1:=h.put o (.int .i64 (x+1))
 have ho:o<cs.size:=(Array.getElem?_eq_some_iff.1 hx).1
 have hst:=D7 (w.setCell ⟨b,o,none⟩ (.int .i64 (x+1))) b o t _ h1 (by simpa using ho) 1073741824
 have h2:=h1.put o (.int .i64 1073741824)
 rw[Array.setIfInBounds_setIfInBounds]at h2
 have aaw:=ah hadd;have HST:=ah hst;have H1:=ah h1;have H2:=ah h2
 clear hadd hst h1 h2 h hx ho
 unfold bump
 by_cases hb:1073741824<x+1
 ·rw[if_pos hb]
  go_enter Tryz.func147,Tryz.ntmps147
  go_wp2_with fail
  refine aaw.out.mono ?_
  rintro e w2 ⟨rfl,rfl⟩
  go_wp2_with fail
  refine HST.out.mono ?_
  rintro e w2 ⟨rfl,rfl⟩
  go_wp2
  go_ret
  exact⟨rfl,H2.out,by(repeat'(first|(with_reducible first|exact ak|apply au|apply ay|apply aA|apply aB)|(exact Or.inl rfl)|(right;simp;done)))⟩
 ·rw[if_neg hb]
  go_enter Tryz.func147,Tryz.ntmps147
  go_wp2_with fail
  refine aaw.out.mono ?_
  rintro e w2 ⟨rfl,rfl⟩
  go_wp2
  go_ret
  exact⟨rfl,H1.out,by(repeat'(first|(with_reducible first|exact ak|apply au|apply ay|apply aA|apply aB)|(exact Or.inl rfl)|(right;simp;done)))⟩
def lK(ns:List Int)(t:Int):Array Value:=(ints ns++[Value.int .i64 t,Value.bool true]).toArray
def xR(w:World)(b:Nat)(ns:List Int)(t:Int):Prop:=Has w b 207 (lK ns t)
structure xk(ns:List Int)(t:Int):Prop where
 len:ns.length=4
 ns:∀n∈ns,0<=n/\n<=1073741824
 t:0<=t/\t<=1073741824
theorem F9{ns:List Int}{t n:Int}{i:Nat}(h:ns[i]? =some n):(lK ns t)[i]? =some (.int .i64 n):=by
 have hi:=(List.getElem?_eq_some_iff.1 h).1
 unfold lK
 rw[List.getElem?_toArray,List.getElem?_append_left (by simpa using hi),List.getElem?_map,h]
 rfl
theorem LU{ns:List Int}{t:Int}(h:ns.length=4):(lK ns t)[4]? =some (.int .i64 t):=by
 unfold lK
 rw[List.getElem?_toArray,List.getElem?_append_right (by simp[h]),List.length_map,h]
 rfl
theorem LV{ns:List Int}{t:Int}(h:ns.length=4):(lK ns t)[5]? =some (.bool true):=by
 unfold lK
 rw[List.getElem?_toArray,List.getElem?_append_right (by simp[h]),List.length_map,h]
 rfl
theorem D8{ns:List Int}{t n:Int}{i:Nat}(h:i<ns.length):(lK ns t).setIfInBounds i (.int .i64 n)=lK (ns.set i n) t:=by
 unfold lK
 rw[List.setIfInBounds_toArray,List.set_append_left _ _ (by simpa using h)]
 unfold ints
 rw[List.map_set]
theorem LW{ns:List Int}{t n:Int}(h:ns.length=4):(lK ns t).setIfInBounds 4 (.int .i64 n)=lK ns n:=by
 unfold lK
 rw[List.setIfInBounds_toArray,List.set_append_right _ _ (by simp[h]),List.length_map,h]
 rfl
theorem yN(w:World):Calls Tryz.prog 107 #[] w fun e w'=>e=.returned (.pointer (some ⟨w.heap.size,0,none⟩))/\xR w' w.heap.size [0,0,0,0] 0/\Kept aj w w':=by
 go_enter Tryz.func107,Tryz.ntmps107
 go_wp2
 go_ret
 exact⟨rfl,Has.new _ _ _,by(repeat'(first|(with_reducible first|exact ak|apply au|apply ay|apply aA|apply aB)|(right;simp;done)))⟩
theorem uo{w:World}{b:Nat}{ns:List Int}{t:Int}(h:xR w b ns t)(ho:ns.length=4):Calls Tryz.prog 146 #[.pointer (some ⟨b,0,none⟩)] w fun e w'=>e=.returned (.bool false)/\w=w':=by
 have q:w.cell? ⟨b,5,none⟩=some (.bool true):=by rw[Has.cell h];exact LV ho
 clear h ho
 go_enter Tryz.func146,Tryz.ntmps146
 go_wp2
 go_ret
 exact⟨rfl,rfl⟩
theorem VR(w:World)(i:Int):Calls Tryz.prog 244 #[.int .i64 i] w fun e w'=>e=.returned (.bool (decide (0<=i/\i<4)))/\w=w':=by
 by_cases h1:0<=i
 ·by_cases h2:i<4
  ·rw[decide_eq_true (by omega)]
   go_enter Tryz.func244,Tryz.ntmps244
   go_wp2
   go_ret
   exact⟨rfl,rfl⟩
  ·rw[decide_eq_false (by omega)]
   go_enter Tryz.func244,Tryz.ntmps244
   go_wp2
   go_ret
   exact⟨rfl,rfl⟩
 ·rw[decide_eq_false (by omega)]
  go_enter Tryz.func244,Tryz.ntmps244
  go_wp2
  go_ret
  exact⟨rfl,rfl⟩
theorem Gf{w:World}{b:Nat}{ns:List Int}{t:Int}(h:xR w b ns t)(ho:xk ns t)(i:Nat)(hi:i<4):Calls Tryz.prog 141 #[.pointer (some ⟨b,0,none⟩),.int .i64 i] w fun e w'=>e=.returned (.bool true)/\xR w' b (ns.set i 0) t/\Kept (fun k=>k=b) w w':=by
 have hn:=uo h ho.len
 have hh:=VR w i
 rw[decide_eq_true (by omega)]at hh
 have hs:=D7 w b i 207 (lK ns t) h (by unfold lK;simp[ho.len];omega) 0
 have hp:=Has.put h i (.int .i64 0)
 rw[D8 (by rw[ho.len];exact hi)]at hp
 have HN:=ah hn;have HH:=ah hh;have HS:=ah hs;have HP:=ah hp
 clear hn hh hs hp h ho
 go_enter Tryz.func141,Tryz.ntmps141
 go_wp2_with fail
 refine HN.out.mono ?_
 rintro e w2 ⟨rfl,rfl⟩
 go_wp2_with fail
 refine HH.out.mono ?_
 rintro e w2 ⟨rfl,rfl⟩
 go_wp2_with fail
 refine HS.out.mono ?_
 rintro e w2 ⟨rfl,rfl⟩
 go_wp2
 go_ret
 exact⟨rfl,HP.out,by(repeat'(first|(with_reducible first|exact ak|apply au|apply ay|apply aA|apply aB)|(exact Or.inl rfl)|(right;simp;done)))⟩
theorem VT{ns:List Int}{i:Nat}{n:Int}(h:ns[i]? =some n):((ns.take i).map bump++ns.drop i).set i (bump n)=(ns.take (i+1)).map bump++ns.drop (i+1):=by
 obtain⟨hi,he⟩:=List.getElem?_eq_some_iff.1 h
 rw[List.set_append_right _ _ (by simp;omega),List.length_map,List.length_take,Nat.min_eq_left (by omega),Nat.sub_self,List.drop_eq_getElem_cons hi,List.set_cons_zero,List.take_succ_eq_append_getElem hi,he,List.map_append]
 simp
theorem Rn{w:World}{b:Nat}{ns:List Int}{t:Int}(h:xR w b ns t)(ho:xk ns t):Calls Tryz.prog 63 #[.pointer (some ⟨b,0,none⟩)] w fun e w'=>e=.returned (.int .i64 (bump t))/\xR w' b (ns.map bump) (bump t)/\Kept (fun k=>k=b) w w':=by
 have hn:=uo h ho.len
 have HN:=ah hn;have HO:=ah ho;have H:=ah h
 clear hn ho h
 go_enter Tryz.func63,Tryz.ntmps63
 go_wp2_with fail
 refine HN.out.mono ?_
 rintro e w2 ⟨rfl,rfl⟩
 go_wp2
 go_loopw [6] (fun v wr=>∃i:Nat,i<=4/\v=.int .i64 i/\xR wr b ((ns.take i).map bump++ns.drop i) t/\Kept (fun k=>k=b) w wr) (fun v _=>4-(intOf v).toNat)
 case atStart=>exact⟨0,by omega,rfl,by simpa using H.out,Kept.refl _ _⟩
 case round=>
  obtain⟨i,hi,rfl,hw,hk⟩:=hrel
  have HK:=ah hk;clear hk
  have hlen:=HO.out.len
  by_cases hil:i<4
  ·obtain⟨n,hn⟩:∃n,ns[i]? =some n:=⟨_,List.getElem?_eq_getElem (by omega)⟩
   have hnb:=HO.out.ns n (List.mem_of_getElem? hn)
   have hni:((ns.take i).map bump++ns.drop i)[i]? =some n:=by
    rw[List.getElem?_append_right (by simp;omega),List.length_map,List.length_take,Nat.min_eq_left (by omega),Nat.sub_self,List.getElem?_drop,Nat.add_zero,hn]
   have hm:=Ja wr b i 207 _ n hw (F9 hni) hnb
   rw[D8 (by simp;omega),VT hn]at hm
   have HM:=ah hm
   clear hn hnb hni hm hw hlen
   go_wp2_with fail
   refine HM.out.mono ?_
   rintro e w3 ⟨rfl,hw3,hk3⟩
   have HW3:=ah hw3;have bf:=ah (HK.out.then hk3);clear hw3 hk3
   go_wp2
   go_roundw
   case rel=>exact⟨i+1,by omega,by go_num,HW3.out,bf.out⟩
   case measure=>simp[intOf];omega
  ·obtain rfl:i=4:=by omega
   have hns:(ns.take 4).map bump++ns.drop 4=ns.map bump:=by rw[<-hlen,List.take_length,List.drop_length,List.append_nil]
   rw[hns]at hw
   have hm:=Ja wr b 4 207 _ t hw (LU (by simpa using hlen)) HO.out.t
   rw[LW (by simpa using hlen)]at hm
   have HM:=ah hm
   clear hm hw hlen hns
   go_wp2_with fail
   refine HM.out.mono ?_
   rintro e w3 ⟨rfl,hw3,hk3⟩
   have HW3:=ah hw3;have bf:=ah (HK.out.then hk3);clear hw3 hk3
   go_wp2
   go_ret
   exact⟨rfl,HW3.out,bf.out⟩
def pq(ns:List Int)(i:Nat):List Int:=((List.range i).filter fun k=>decide (6<=ns.getD k 0)).map fun k:Nat=>(k:Int)
def xq(ns:List Int):List Int:=pq ns 4
theorem LX{ns:List Int}{i:Nat}{n:Int}(h:ns[i]? =some n):pq ns (i+1)=if 6<=n then pq ns i++[(i:Int)]else pq ns i:=by
 have hg:ns.getD i 0=n:=by rw[List.getD_eq_getElem?_getD,h];rfl
 unfold pq
 rw[List.range_succ,List.filter_append,List.map_append]
 by_cases h6:6<=n
 ·rw[if_pos h6,List.filter_cons,hg,if_pos (decide_eq_true h6)];rfl
 ·rw[if_neg h6,List.filter_cons,hg,if_neg (by simpa using h6)];simp
theorem D9(ns:List Int)(i:Nat):(pq ns i).length<=i:=by
 unfold pq
 rw[List.length_map]
 exact Nat.le_trans (List.length_filter_le _ _) (by simp)
theorem aF.pushed{e:TypeId}{size n c n' c':Nat}{w0 w w1 w':World}{A A':Option Addr}{xs ys:List Value}(h:aF e size w0.heap.size w A n c xs)(hk1:Kept aj w0 w1)(ho:w'.ownsRow 0 e size (.slice A' n' c') n' ys)
  (hg:w1.grownBy w' (Value.slice A n c).ownBlock) (ha:(Value.slice A' n' c').ownBlock=(Value.slice A n c).ownBlock\/(Value.slice A' n' c').ownBlock=some w1.heap.size):aF e size w0.heap.size w' A' n' c' ys/\Kept aj w0 w':=
 ⟨h.snoc hk1.size ho ha,hk1.grownBy hg fun k hk=> .inr (h.2 k hk)⟩
theorem aF.nil(e:TypeId)(size B:Nat)(w:World):aF e size B w none 0 0 []:=⟨⟨by simp,.inl ⟨rfl,rfl⟩⟩,fun k hk=>by simp[Value.ownBlock]at hk⟩
def Jb(w:World)(ns:List Int)(e:Ending)(w':World):Prop:=∃A c,e=.returned (.slice A (xq ns).length c)/\aF 3 1 w.heap.size w' A (xq ns).length c (ints (xq ns))/\Kept aj w w'
theorem VU{w:World}{b:Nat}{ns:List Int}{t:Int}(h:xR w b ns t)(ho:xk ns t):Calls Tryz.prog 252 #[.pointer (some ⟨b,0,none⟩)] w (Jb w ns):=by
 have hn:=uo h ho.len
 have HN:=ah hn;have HO:=ah ho;have H:=ah h
 clear hn ho h
 go_enter Tryz.func252,Tryz.ntmps252
 go_wp2_with fail
 refine HN.out.mono ?_
 rintro e w2 ⟨rfl,rfl⟩
 go_wp2
 go_loopw [3,7] (fun v3 v7 wr=>∃(i:Nat) (A:Option Addr) (c:Nat),i<=4/\v7=.int .i64 i/\v3=.slice A (pq ns i).length c/\aF 3 1 w.heap.size wr A (pq ns i).length c (ints (pq ns i))/\Kept aj w wr) (fun _ v7 _=>4-(intOf v7).toNat)
 case atStart=>exact⟨0,none,0,by omega,rfl,rfl,aF.nil _ _ _ _,Kept.refl _ _⟩
 case round=>
  obtain⟨i,A,c,hi,rfl,rfl,hrow,hk⟩:=hrel
  have hlen:=HO.out.len
  by_cases hil:i<4
  ·obtain⟨n,hn⟩:∃n,ns[i]? =some n:=⟨_,List.getElem?_eq_getElem (by omega)⟩
   have hs:=LX hn
   have hll:=D9 ns i
   have hw:wr.cell? ⟨b,i,none⟩=some (.int .i64 n):=by rw[Has.cell (H.out.kept hk (fun z=>z))];exact F9 hn
   have hl:=Rl wr b i n hw
   obtain⟨L,hL⟩:∃L,pq ns i=L:=⟨_,rfl⟩
   rw[hL]at hs hrow hll⊢
   have iI:=ah hrow;have HK:=ah hk;have HL:=ah hl;have HS:=ah hs
   clear hn hs hw hl hL hrow hk hlen
   by_cases h6:6<=n
   ·have hs6:=HS.out
    rw[if_pos h6]at hs6
    have mW:=ah hs6;clear hs6 HS
    go_wp2_with fail
    refine HL.out.mono ?_
    rintro e w3 ⟨rfl,rfl⟩
    have fQ:Hid (L.length+1<=maxLen):=ah (by unfold maxLen;omega)
    go_wp2_with (at_builtin;refine aI jF (.tmp 17) (.tmp 19) rfl rfl (Value.slice A L.length c) rfl (aC iI.out.1 (F:=aj) (by(repeat'(first|(with_reducible first|exact ak|apply au|apply ay|apply aA|apply aB)|(right;simp;done)))) (fun _ _ x=>x)) 1 rfl (Src.bW (t:=3) (size:=1) (m:=1) (cs:=#[.int .i64 i]) (by(repeat (with_reducible first|exact Has.bP _ _ _ (by simp)|apply Has.drew|apply Has.drewN|apply Has.alloc|(apply Has.past<;>(try omega))))) rfl) (by simp[Value.oneCell']) fQ.out (by omega) ?_;intro A1 c1 w9 ho1 hg1 ha1;have hpush:=aF.pushed iI.out (by(repeat'(first|(with_reducible first|exact ak|apply au|apply ay|apply aA|apply aB)|(exact HK.out)|(right;simp;done)))) ho1 hg1 ha1;have HP:=ah hpush;clear ho1 hg1 ha1 hpush)
    go_roundw
    case rel=>exact⟨i+1,A1,c1,by omega,by go_num,by rw[mW.out,List.length_append];rfl,by rw[mW.out];simpa [ints]using HP.out.1,HP.out.2⟩
    case measure=>simp[intOf];omega
   ·have hs6:=HS.out
    rw[if_neg h6]at hs6
    have mW:=ah hs6;clear hs6 HS
    go_wp2_with fail
    refine HL.out.mono ?_
    rintro e w3 ⟨rfl,rfl⟩
    go_wp2
    go_roundw
    case rel=>exact⟨i+1,A,c,by omega,by go_num,by rw[mW.out],by rw[mW.out];exact iI.out,HK.out⟩
    case measure=>simp[intOf];omega
  ·obtain rfl:i=4:=by omega
   have iI:=ah hrow;have HK:=ah hk;clear hrow hk
   go_wp2
   go_ret
   exact⟨A,c,rfl,iI.out,HK.out⟩
end lJ
namespace Mst
open aP Vn
theorem jF:Elem Tryz.prog 36 3 1 8:=by
 obtain⟨i0,hi,hz0,hz1,hz2⟩:=info_parts (show(Tryz.prog.info? 3).map (fun i=>(i.zero,i.size,i.bytes))=some (some (.int .i64 0),1,8) by kernel_rfl)
 exact⟨Tryz.underlying36,⟨i0,_,hi,hz0,hz1,hz2,rfl⟩,by decide⟩
theorem VW(l:List Int):∀u∈ints l,u.oneCell'=true:=by
 intro u hu
 obtain⟨x,_,hx⟩:=List.mem_map.1 hu
 rw[<-hx];rfl
def Am(w:World)(l:List Int)(e:Ending)(w':World):Prop:=
 ∃A c,e=.returned (.slice A l.length c)/\aF 3 1 w.heap.size w' A l.length c (ints l)/\Kept aj w w'
theorem wB(w:World)(A:Option Addr)(c:Nat)(l:List Int)(hl:Src w 1 A l.length (ints l))(hlen:l.length<=1000000):
  Calls Tryz.prog 118 #[.slice A l.length c] w (Am w l):=by
 have hnil:∀W n' c',(binOp .eql 36 (.slice A l.length c) (.slice none n' c')).run Tryz.prog W=.ok (.bool A.isNone) W:=fun W n' c'=>Lib.run_eql_slice_nil W _ _ A _ _ _ _ Tryz.underlying36
 cases A with
 |none=>
  have h0:l.length=0:=by
   rcases Nat.eq_zero_or_pos l.length with h|h
   ·exact h
   ·obtain⟨ad,h1,_⟩:=hl.2 h;cases h1
  obtain rfl:l=[]:=List.eq_nil_of_length_eq_zero h0
  clear h0 hl
  simp only[Option.isNone_none,List.length_nil]at hnil⊢
  go_enter Tryz.func118,Tryz.ntmps118
  go_wp2
  go_ret
  exact⟨none,0,rfl,⟨⟨rfl,.inl ⟨rfl,rfl⟩⟩,fun k hk=>by cases hk⟩,Kept.refl _ _⟩
 |some ad=>
  simp only[Option.isNone_some]at hnil
  have hm1:0+l.length<=maxLen:=by unfold maxLen;omega
  have hm2:(0+l.length)*8<=140737488355328:=by omega
  have fQ:=ah hm1;clear hm1
  have iC:=ah hm2;clear hm2
  have HL:=ah hl;clear hl
  go_enter Tryz.func118,Tryz.ntmps118
  go_wp2_with (at_builtin;refine aI jF (.tmp 5) (.tmp 6) rfl rfl (Value.slice (some ⟨w.heap.size,0,none⟩) 0 0) rfl (wU (Has.new w 3 #[]) rfl) c rfl (HL.out.kept ((Kept.refl aj w).alloc _) (fun _ _ x=>x)) (VW l) fQ.out iC.out ?_;intro A1 c1 w1 ho1 hg1 ha1;simp only[Nat.zero_add,List.nil_append]at ho1 ha1;have hk1:Kept aj w w1:=((Kept.refl aj w).alloc _).grown hg1 (fun k hk=> .inr (sG hk (Nat.le_refl _)));have qT:=ah (And.intro ho1 (And.intro ha1 hk1));clear ho1 hg1 ha1 hk1)
  go_ret
  refine⟨A1,c1,by simp,⟨qT.out.1,fun k hk=> ?_⟩,qT.out.2.2⟩
  rcases qT.out.2.1 with e|e
  ·exact sG (e.symm.trans hk) (Nat.le_refl _)
  ·rw[hk]at e
   injection e with e
   simp at e
   omega
theorem ng:Elem Tryz.prog 22 53 2 16:=by
 obtain⟨i0,hi,hz0,hz1,hz2⟩:=info_parts (show(Tryz.prog.info? 53).map (fun i=>(i.zero,i.size,i.bytes))=some (some (.agg #[.int .i64 0,.int .i64 0]),2,16) by kernel_rfl)
 exact⟨Tryz.underlying22,⟨i0,_,hi,hz0,hz1,hz2,rfl⟩,by decide⟩
theorem OJ(l:List Mem):∀u∈aS l,u.oneCell'=true:=by
 intro u hu
 obtain⟨x,_,hx⟩:=List.mem_flatMap.1 hu
 have h2:u=.int .i64 x.1\/u=.int .i64 x.2:=by simpa [BP]using hx
 rcases h2 with rfl|rfl<;>rfl
def aax(w:World)(l:List Mem)(e:Ending)(w':World):Prop:=
 ∃A c,e=.returned (.slice A l.length c)/\aF 53 2 w.heap.size w' A l.length c (aS l)/\Kept aj w w'
theorem Jc(w:World)(A:Option Addr)(c:Nat)(l:List Mem)(hl:Src w 2 A l.length (aS l))(hlen:l.length<=1000000):
  Calls Tryz.prog 207 #[.slice A l.length c] w (aax w l):=by
 have hnil:∀W n' c',(binOp .eql 22 (.slice A l.length c) (.slice none n' c')).run Tryz.prog W=.ok (.bool A.isNone) W:=fun W n' c'=>Lib.run_eql_slice_nil W _ _ A _ _ _ _ Tryz.underlying22
 cases A with
 |none=>
  have h0:l.length=0:=by
   rcases Nat.eq_zero_or_pos l.length with h|h
   ·exact h
   ·obtain⟨ad,h1,_⟩:=hl.2 h;cases h1
  obtain rfl:l=[]:=List.eq_nil_of_length_eq_zero h0
  clear h0 hl
  simp only[Option.isNone_none,List.length_nil]at hnil⊢
  go_enter Tryz.func207,Tryz.ntmps207
  go_wp2
  go_ret
  exact⟨none,0,rfl,⟨⟨rfl,.inl ⟨rfl,rfl⟩⟩,fun k hk=>by cases hk⟩,Kept.refl _ _⟩
 |some ad=>
  simp only[Option.isNone_some]at hnil
  have hm1:0+l.length<=maxLen:=by unfold maxLen;omega
  have hm2:(0+l.length)*16<=140737488355328:=by omega
  have fQ:=ah hm1;clear hm1
  have iC:=ah hm2;clear hm2
  have HL:=ah hl;clear hl
  go_enter Tryz.func207,Tryz.ntmps207
  go_wp2_with (at_builtin;refine aI ng (.tmp 5) (.tmp 6) rfl rfl (Value.slice (some ⟨w.heap.size,0,none⟩) 0 0) rfl (wU (Has.new w 53 #[]) rfl) c rfl (HL.out.kept ((Kept.refl aj w).alloc _) (fun _ _ x=>x)) (OJ l) fQ.out iC.out ?_;intro A1 c1 w1 ho1 hg1 ha1;simp only[Nat.zero_add,List.nil_append]at ho1 ha1;have hk1:Kept aj w w1:=((Kept.refl aj w).alloc _).grown hg1 (fun k hk=> .inr (sG hk (Nat.le_refl _)));have qT:=ah (And.intro ho1 (And.intro ha1 hk1));clear ho1 hg1 ha1 hk1)
  go_ret
  refine⟨A1,c1,by simp,⟨qT.out.1,fun k hk=> ?_⟩,qT.out.2.2⟩
  rcases qT.out.2.1 with e|e
  ·exact sG (e.symm.trans hk) (Nat.le_refl _)
  ·rw[hk]at e
   injection e with e
   simp at e
   omega
theorem yw:Elem Tryz.prog 58 79 3 24:=by
 obtain⟨i0,hi,hz0,hz1,hz2⟩:=info_parts (show(Tryz.prog.info? 79).map (fun i=>(i.zero,i.size,i.bytes))=some (some (.agg #[.int .i64 0,.int .u64 0,.int .i64 0]),3,24) by kernel_rfl)
 exact⟨Tryz.underlying58,⟨i0,_,hi,hz0,hz1,hz2,rfl⟩,by decide⟩
theorem Ea(l:List aZ):∀u∈aK l,u.oneCell'=true:=by
 intro u hu
 obtain⟨x,_,hx⟩:=List.mem_flatMap.1 hu
 have h2:u=.int .i64 x.id\/u=.int .u64 x.at'\/u=.int .i64 x.left:=by simpa [oK]using hx
 rcases h2 with rfl|rfl|rfl<;>rfl
def wC(w:World)(l:List aZ)(e:Ending)(w':World):Prop:=
 ∃A c,e=.returned (.slice A l.length c)/\aF 79 3 w.heap.size w' A l.length c (aK l)/\Kept aj w w'
theorem rG(w:World)(A:Option Addr)(c:Nat)(l:List aZ)(hl:Src w 3 A l.length (aK l))(hlen:l.length<=1000000):
  Calls Tryz.prog 67 #[.slice A l.length c] w (wC w l):=by
 have hnil:∀W n' c',(binOp .eql 58 (.slice A l.length c) (.slice none n' c')).run Tryz.prog W=.ok (.bool A.isNone) W:=fun W n' c'=>Lib.run_eql_slice_nil W _ _ A _ _ _ _ Tryz.underlying58
 cases A with
 |none=>
  have h0:l.length=0:=by
   rcases Nat.eq_zero_or_pos l.length with h|h
   ·exact h
   ·obtain⟨ad,h1,_⟩:=hl.2 h;cases h1
  obtain rfl:l=[]:=List.eq_nil_of_length_eq_zero h0
  clear h0 hl
  simp only[Option.isNone_none,List.length_nil]at hnil⊢
  go_enter Tryz.func67,Tryz.ntmps67
  go_wp2
  go_ret
  exact⟨none,0,rfl,⟨⟨rfl,.inl ⟨rfl,rfl⟩⟩,fun k hk=>by cases hk⟩,Kept.refl _ _⟩
 |some ad=>
  simp only[Option.isNone_some]at hnil
  have hm1:0+l.length<=maxLen:=by unfold maxLen;omega
  have hm2:(0+l.length)*24<=140737488355328:=by omega
  have fQ:=ah hm1;clear hm1
  have iC:=ah hm2;clear hm2
  have HL:=ah hl;clear hl
  go_enter Tryz.func67,Tryz.ntmps67
  go_wp2_with (at_builtin;refine aI yw (.tmp 5) (.tmp 6) rfl rfl (Value.slice (some ⟨w.heap.size,0,none⟩) 0 0) rfl (wU (Has.new w 79 #[]) rfl) c rfl (HL.out.kept ((Kept.refl aj w).alloc _) (fun _ _ x=>x)) (Ea l) fQ.out iC.out ?_;intro A1 c1 w1 ho1 hg1 ha1;simp only[Nat.zero_add,List.nil_append]at ho1 ha1;have hk1:Kept aj w w1:=((Kept.refl aj w).alloc _).grown hg1 (fun k hk=> .inr (sG hk (Nat.le_refl _)));have qT:=ah (And.intro ho1 (And.intro ha1 hk1));clear ho1 hg1 ha1 hk1)
  go_ret
  refine⟨A1,c1,by simp,⟨qT.out.1,fun k hk=> ?_⟩,qT.out.2.2⟩
  rcases qT.out.2.1 with e|e
  ·exact sG (e.symm.trans hk) (Nat.le_refl _)
  ·rw[hk]at e
   injection e with e
   simp at e
   omega
theorem Gg(w:World)(id:Int):Calls Tryz.prog 233 #[.int .i64 id] w fun e w'=>e=.returned (.func (.func 336) #[] #[.pointer (some ⟨w.heap.size,0,none⟩)])/\w'=w.alloc (.cells #[.int .i64 id] 3):=by
 go_enter Tryz.func233,Tryz.ntmps233
 go_wp2
 go_ret
 exact⟨rfl,rfl⟩
theorem OL(w:World)(x:aZ)(b:Nat)(id:Int)(hb:Has w b 3 #[.int .i64 id]):
  Calls Tryz.prog 336 #[yQ x,.pointer (some ⟨b,0,none⟩)] w fun e w'=>e=.returned (.bool (decide (x.id=id)))/\Kept aj w w':=by
 have c0:=(hb.alloc (.cells #[.int .i64 x.id,.int .u64 x.at',.int .i64 x.left] 79)).cell 0
 simp only[List.getElem?_toArray,List.getElem?_cons_zero,List.getElem?_cons_succ]at c0
 clear hb
 go_enter Tryz.func336,Tryz.ntmps336
 go_wp2
 go_ret
 exact⟨rfl,by(repeat'(first|(with_reducible first|exact ak|apply au|apply ay|apply aA|apply aB)|(right;simp;done)))⟩
def fG(l:List aZ)(id:Int):Int:=iq (fun x=>decide (x.id=id)) l 0
theorem Jd(w:World)(A:Option Addr)(c:Nat)(l:List aZ)(b:Nat)(id:Int)(hb:Has w b 3 #[.int .i64 id])(hl:Src w 3 A l.length (aK l))(hlen:l.length<=1000000):
  Calls Tryz.prog 232 #[.slice A l.length c,.func (.func 336) #[] #[.pointer (some ⟨b,0,none⟩)]] w fun e w'=>e=.returned (.tuple #[.int .i64 (fG l id),.bool (decide (0<=fG l id))])/\Kept aj w w':=by
 have h:=ru w A c l 336 (.pointer (some ⟨b,0,none⟩)) (fun x=>decide (x.id=id)) (fun args W=>enters Tryz.func336 (by kernel_rfl) rfl args W) hl hlen (fun W x hW _=>OL W x b id (hb.kept hW (fun z=>z)))
 have hr:iq (fun x=>decide (x.id=id)) l 0=fG l id:=rfl
 rw[hr]at h
 obtain⟨r,hr⟩:∃r,fG l id=r:=⟨_,rfl⟩
 rw[hr]at h⊢
 have H:=ah h;clear h hr hl hb
 go_enter Tryz.func232,Tryz.ntmps232
 go_wp2_with fail
 refine H.out.mono ?_
 rintro e w2 ⟨rfl,hk⟩
 have HK:=ah hk;clear hk
 go_wp2
 go_ret2
 exact⟨by simp,HK.out⟩
end Mst
end Go.Proofs.YtolkgbafebehfaaGreat

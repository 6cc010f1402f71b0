/- Part 30 of what the proof needs. -/
import Derived.Test.YtolkgbafebehfaaGreatZP28
set_option linter.unusedSimpArgs false
set_option linter.unusedVariables false
set_option maxHeartbeats 32000000
set_option maxRecDepth 100000
namespace Go.Proofs.YtolkgbafebehfaaGreat
open Go.RowKit Go.Maps
set_option maxRecDepth 100000
namespace aJ
def FH(m:Safe)(f:Int):Safe:=fun x=>if x=f then none else m x
theorem gJ.dropped{w':World}{b n:Nat}{m:Safe}{D:DataW Unit}(hD:∀k,I64 k->has D (.int .i64 k)=(m k).isSome/\D.atKey (.int .i64 k) (.lit (.string []))=.lit (.string (dY m k).data.toList)){k:Int}
  (ho:w'.ownsMap Tryz.prog 3 (plainElem Tryz.prog 9) b n (D.del (.int .i64 k))):gJ w' b n (FH m k):=by
 refine⟨_,ho,?_⟩
 intro i hi
 by_cases e:i=k
 ·subst e
  rw[has_del_same,atKey_del_same]
  simp[FH,dY]
 ·have hne:(Lit.int .i64 i)≠ .int .i64 k:=fun h=>e (by injection h)
  rw[has_del_other hne,atKey_del_other hne]
  have:=hD i hi
  simpa [FH,dY,e]using this
theorem Pq(w:World)(A:Option Addr)(c:Nat)(f:Value):Calls Tryz.prog 371 #[.slice A 0 c,f] w fun e w'=>e=.returned (.int .i64 (-1))/\w=w':=by
 go_enter Tryz.func371,Tryz.ntmps371
 go_wp2_with fail
 refine wp_loop_rounds 1 ?_;rw[rounds_succ]
 go_wp2
 go_ret
 exact⟨rfl,rfl⟩
theorem Pv(w:World)(A:Option Addr)(c:Nat)(f:Value):Calls Tryz.prog 324 #[.slice A 0 c,f] w fun e w'=>e=.returned (.slice A 0 c)/\w=w':=by
 go_enter Tryz.func324,Tryz.ntmps324
 go_wp2_with fail
 refine(Pq _ _ _ _).mono ?_
 rintro e w' ⟨rfl,rfl⟩
 go_wp2
 go_ret
 exact⟨rfl,rfl⟩
variable{F:Nat->Prop}{w:World}{g n:Nat}{m:Safe}{ps:List Pc}{aV aO:Int}
theorem WR(h:aX w g F n m [] aV aO)(f:Int)(hf:I64 f)(hn:n<=100000)(hm:cu m [] f=true):
  Calls Tryz.prog 211 #[.pointer (some ⟨g,0,none⟩),.int .i64 f] w fun e w'=>e=.returned (.int .i64 0)/\aX w' g F n (FH m f) [] aV aO/\Kept F w w':=by
 have hmf:∀(fn:Fn) (first cap:Array Value) (w:World),(Instr.makeFunc fn first cap).run Tryz.prog w=.ok (.func fn first cap) w:=fun _ _ _ _=>rfl
 obtain⟨w1,hw1⟩:∃w1,w.alloc (.cells #[.int .i64 f] 3)=w1:=⟨_,rfl⟩
 have hk1:Kept aj w w1:=by rw[<-hw1];exact(Kept.refl _ _).alloc _
 have hb1:Has w1 w.heap.size 3 #[.int .i64 f]:=by rw[<-hw1];exact Has.new _ _ _
 have hd1:aX w1 g F n m [] aV aO:=h.kept hk1 (fun _ _ z=>z)
 have hno:=dN hd1
 have hfi:=fun W (hW:Kept aj w1 W)=>qV (hd1.kept hW (fun _ _ z=>z)) (fun p hp=>by cases hp) hn (by decide)
 have c3:w1.cell? ⟨w.heap.size,0,none⟩=some (.int .i64 f):=hb1.cell 0
 have HW1:=ah hw1;have iZ:=ah hno;have qh:=ah hfi;have HM:=ah hm;have HB1:=ah hb1;have gI:=ah hk1;have HD1:=ah hd1;have HF:=ah hf
 clear hno hfi hm hb1 hk1 hd1 hw1 h hf
 go_enter Tryz.func211,Tryz.ntmps211
 go_wp2_with fail
 rw[HW1.out]
 refine iZ.out.mono ?_
 rintro e w' ⟨rfl,rfl⟩
 go_wp2_with fail
 go_region_held3 (fun W=>W.cell? ⟨w.heap.size,0,none⟩=some (.int .i64 f)) (first|exact c3|exact q4|(simp[go_sem,c3];done))
  (first
   |(go_at_call 95;refine(qh.out _ (by(repeat'(first|(with_reducible first|exact ak|apply au|apply ay|apply aA|apply aB)|(right;simp;done))))).mono ?_;rintro e w4 ⟨fl,A,c,rfl,hfa,hown,hnew,hk4⟩;have hk5:Kept aj w1 w4:=Kept.then (by(repeat'(first|(with_reducible first|exact ak|apply au|apply ay|apply aA|apply aB)|(right;simp;done)))) hk4;have q4:=(HB1.out.kept hk5 (fun z=>z)).cell 0;have qP:=ah hown;have Ew:=ah hfa;clear hown hfa hnew)
   |(go_at_call 142;have hco:=AU.kV w4 A c fl f (Src.bC qP.out) (Nat.le_trans (jk qP.out).1 (jk qP.out).2);rw[AU.sS.2 ((Ew.out.mem f).2 ⟨HF.out,HM.out⟩)]at hco;refine hco.mono ?_;rintro e w5 ⟨rfl,rfl⟩;clear hco))
 clear c3
 have hd4:=HD1.out.kept hk5 (fun _ _ z=>z)
 obtain⟨mb,A0,c0',hF,hg,hm,ho⟩:=hd4
 have m0:w4.cell? ⟨g,0,none⟩=some (.map (some mb)):=hg.cell 0
 have hkd:Kept aj w4 w4.drew:=(Kept.refl _ _).drew
 obtain⟨D,hmo,hD⟩:=hm.kept hkd (fun z=>z)
 have hne:=hm.ne hg
 have hbr:∀k,(Value.slice A0 ([]:List Pc).length c0').ownBlock=some k->k≠mb:=fun k hk e=>(hm.AQ ho) (e▸hk)
 have hgl:=hg.lt
 have hb4:Has w4 w.heap.size 3 #[.int .i64 f]:=HB1.out.kept hk5 (fun z=>z)
 have hbm:mb≠w.heap.size:=hm.ne hb4
 have Tf:=ah hF;have HG:=ah (hg.kept hkd (fun z=>z));have HO:=ah (aC ho hkd (fun _ _ z=>z));have HD:=ah hD;have HB4:=ah (hb4.kept hkd (fun z=>z));have cO:=ah hk5
 clear hF hg hm ho hD hk5 hb4 hkd
 go_wp2_with fail
 refine wp_region_still_tail 5 (by kernel_rfl) (by kernel_rfl) ?_
 simp only[List.take_succ_cons,List.take_zero,List.drop_succ_cons,List.drop_zero]
 change wpStill _ _ (World.drew w4) _ _ _
 repeat still_step
 refine wpStill_nil ?_
 change wpList _ _ _ _ _ (World.drew w4)
 go_wp2_with (at_delete;refine wpList_delete_own _ rfl _ _ 101 3 rfl 9 jy Tryz.underlying101 _ mb n D rfl hmo _ _ rfl (pF HF.out) ?_;intro w6 hown6 Ti;have hkt:Kept (fun i=>i=mb) w4.drew w6:=((Kept.refl _ _).grownBy Ti.grown (fun i hi=>by injection hi with hi;exact .inl hi.symm));have Gw:=HG.out.kept hkt (fun e=>hne e.symm);have d1:w6.cell? ⟨g,1,none⟩=some (.slice A0 0 c0'):=Gw.cell 1;have f1:=Gw.frozen 1;have HT:=ah hkt;have acJ:=ah hown6;have HG6:=ah Gw;clear hkt hown6 Ti Gw)
 refine(Pv _ _ _ _).mono ?_
 rintro e w7 ⟨rfl,rfl⟩
 go_wp2
 go_ret
 have hks:Kept (fun k=>k=g) w6 (w6.setCell ⟨g,1,none⟩ (.slice A0 0 c0')):=(Kept.refl _ w6).put (.inl rfl)
 refine⟨rfl,⟨mb,A0,c0',Tf.out,HG6.out.dB rfl,(gJ.dropped HD.out acJ.out).kept hks hne,?_⟩,?_⟩
 ·exact aC (aC HO.out HT.out (fun k hk e=>hbr k hk e)) hks (fun k hk e=>own_ne (aC HO.out HT.out (fun k hk e=>hbr k hk e)) HG6.out (by decide) (e▸hk))
 ·exact(((gI.out.then cO.out).drew.mono (fun _ z=>z.elim)).then (HT.out.mono (fun k hk=>(Tf.out k).2 (.inr (.inl hk))))).put (.inl ((Tf.out g).2 (.inl rfl)))
end aJ
end Go.Proofs.YtolkgbafebehfaaGreat
namespace Go.Proofs.YtolkgbafebehfaaGreat
open Go.RowKit
set_option maxRecDepth 100000
namespace Pt
open aJ Fr Vn Ops Wl
def t1:List UInt8->List (List UInt8)
 |c::r=>if c=84 then [r]else []
 |[]=>[]
def tt(l:List (List UInt8)):List (List UInt8):=l.flatMap t1
theorem FB(x:ByteArray):∀u∈[Value.string x],u.oneCell'=true:=by
 intro u hu
 obtain rfl:u=.string x:=by simpa using hu
 rfl
section
variable{F:Nat->Prop}{w:World}{g n:Nat}{m:aJ.Safe}{ps:List aJ.Pc}{aV aO:Int}
end
end Pt
namespace Pt
open aJ Fr Vn Ops Wl
theorem FI(w:World):Calls Tryz.prog 191 #[.int .i64 0] w fun e w'=>e=.returned (.tuple #[])/\w=w':=by
 go_enter Tryz.func191,Tryz.ntmps191
 go_wp2
 go_end0
 exact⟨rfl,rfl⟩
theorem sO(w:World)(s:ByteArray)(b:Bool)(hb:decide ((65536:Int)<=(s.size:Int))=b):Calls Tryz.prog 201 #[.string s] w fun e w'=>e=.returned (.bool b)/\w=w':=by
 subst hb
 go_enter Tryz.func201,Tryz.ntmps201
 go_wp2
 go_ret
 exact⟨rfl,rfl⟩
theorem clone_any(w:World)(A:Option Addr)(c:Nat)(l:List ByteArray)(hl:Src w 1 A l.length (l.map Value.string))(hlen:l.length<=1000000000):
  Calls Tryz.prog 126 #[.slice A l.length c] w fun e w'=>∃A' c',e=.returned (.slice A' l.length c')/\aF 9 1 w.heap.size w' A' l.length c' (l.map Value.string)/\Below w.heap.size w w':=by
 have hnil:∀W n' c',(binOp .eql 106 (.slice A l.length c) (.slice none n' c')).run Tryz.prog W=.ok (.bool A.isNone) W:=fun W n' c'=>Lib.run_eql_slice_nil W _ _ A _ _ _ _ Tryz.underlying106
 cases A with
 |none=>
  obtain rfl:l=[]:=by
   rcases l with _|⟨a,l⟩
   ·rfl
   ·obtain⟨ad,h,_⟩:=hl.2 (by simp)
    cases h
  clear hl hlen
  have hnil0:∀W n' c',(binOp .eql 106 (.slice none 0 c) (.slice none n' c')).run Tryz.prog W=.ok (.bool true) W:=fun W n' c'=>Lib.run_eql_slice_nil W _ _ none _ _ _ _ Tryz.underlying106
  clear hnil
  go_enter Tryz.func126,Tryz.ntmps126
  go_wp2
  go_ret
  exact⟨none,0,rfl,⟨⟨rfl,.inl ⟨rfl,rfl⟩⟩,fun k hk=>by cases hk⟩,Below.refl _ _⟩
 |some ad=>
  simp only[Option.isNone_some]at hnil
  have hk1:Kept aj w (w.alloc (.cells #[] 9)):=(Kept.refl _ _).alloc _
  have hown:(w.alloc (.cells #[] 9)).ownsRow 0 9 1 (.slice (some ⟨w.heap.size,0,none⟩) 0 0) 0 []:=wU (Has.new w 9 #[]) rfl
  have HS:=ah (hl.kept hk1 (fun _ _ z=>z));have HO:=ah hown
  have hone:∀u∈l.map Value.string,u.oneCell'=true:=by
   intro u hu
   rw[List.mem_map]at hu
   obtain⟨x,_,rfl⟩:=hu
   rfl
  have sQ:=ah hone
  have hM:0+l.length<=maxLen:=by unfold maxLen;omega
  have hY:(0+l.length)*16<=140737488355328:=by omega
  have HM:=ah hM;have HY:=ah hY
  clear hl hown hone hM hY hk1 hlen
  go_enter Tryz.func126,Tryz.ntmps126
  go_wp2_with (at_builtin;refine aI BV (.tmp 5) (.tmp 6) rfl rfl (Value.slice (some ⟨w.heap.size,0,none⟩) 0 0) rfl HO.out c rfl HS.out sQ.out HM.out HY.out ?_;intro A9 c9 w9 Tj Tm Tn;have xB:=ah Tj;have HG9:=ah Tm;have Yz:=ah Tn;clear Tj Tm Tn)
  go_ret
  have ho:=xB.out
  rw[Nat.zero_add,List.nil_append]at ho
  have ha:=Yz.out
  rw[Nat.zero_add]at ha
  refine⟨A9,c9,rfl,⟨ho,fun k hk=> ?_⟩,?_⟩
  ·rcases ha with e|e
   ·have h9:=e.symm.trans hk
    simp[Value.ownBlock]at h9
    omega
   ·have h9:=e.symm.trans hk
    injection h9 with h9
    simp at h9
    omega
  ·exact(Kept.grown ((Kept.refl aj w).alloc _) HG9.out (fun k hk=>by simp[Value.ownBlock]at hk;exact .inr (by omega))).below (Nat.le_refl _) (fun _ z=>z.elim)
theorem ZJ(W:World):(Instr.typeAssert .nilIface 20 30 true).run Tryz.prog W=.ok (.tuple #[.int .i64 0,.bool false]) W:=by kernel_rfl
theorem Tq(w:World)(p:Option Addr):Calls Tryz.prog 190 #[.nilIface,.pointer p] w fun e w'=>e=.returned (.tuple #[])/\w'=w:=by
 have hta:=fun W=>ZJ W
 go_enter Tryz.func190,Tryz.ntmps190
 go_wp2
 go_end0
 exact⟨rfl,rfl⟩
theorem Tt(w:World)(y1:Nat):
  CallsD Tryz.prog 189 #[.pointer (some ⟨y1,0,none⟩)] .returning w fun e u w'=>e=.returned (.tuple #[])/\u=.returning/\w'=w:=by
 have hst:=Tq w (some ⟨y1,0,none⟩)
 refine callsD_of_wpS Tryz.func189 rfl fun c₀ cs hu=> ?_
 apply wpS_region
 simp[wpOpsS,go_sem,recoverD,hu,Tryz.ntmps189,Exit.thenS]
 refine hst.mono ?_
 rintro e w' ⟨rfl,rfl⟩
 refine⟨rfl,.returning,?_,_,results_none rfl _ _ _,rfl,rfl,rfl⟩
 cases c₀
 simp_all
end Pt
namespace Wl
open aJ Fr Vn Ops
structure Low(first:Int)(m:aJ.Safe)(ps:List aJ.Pc):Prop where
 file:∀x,x<first->(dY m x).size=0
 pc:∀p∈ps,first<=p.1
theorem uH(first:Int):∀(R:St) (T:List (List UInt8)),(∀t∈T,t.length<=65536)->∀p∈iK first R T,p.2.size<=65549/\first<=p.1/\p.1<=first+(R.length+T.length:Nat)
 |R,[],_,p,hp=>by cases hp
 |R,t::T,hT,p,hp=>by
  rcases List.mem_cons.1 hp with rfl|hp
  ·refine⟨by rw[lX];exact JL (hT t (by simp)),?_,?_⟩
   ·show first<=first+(lastOf R:Int);omega
   ·have:=AV R;show first+(lastOf R:Int)<=_;omega
  ·obtain⟨h1,h2,h3⟩:=uH first (app R t) T (fun x hx=>hT x (by simp[hx])) p hp
   have:=JR R t
   exact⟨h1,h2,by simp only[List.length_cons];omega⟩
section
variable{first:Int}{R:St}{T:List (List UInt8)}{m:aJ.Safe}{ps:List aJ.Pc}
theorem Low.pcs(h:Low first m ps)(hl:Log first R T m ps):ps=iK first R T:=by
 rw[<-hl.rest,List.filter_eq_self.2]
 intro p hp
 have:=h.pc p hp
 simpa [mine]using this
theorem Tv{R:St}(h:Ok R)(i:Nat):(qC R i).length<=66000:=by
 induction R with
 |nil=>exact Nat.zero_le _
 |cons f R ih=>
  simp only[qC]
  split
  ·exact(h f (by simp)).size
  ·exact ih (fun g hg=>h g (List.mem_cons_of_mem _ hg))
theorem Low.size(h:Low first m ps)(hl:Log first R T m ps)(f:Int):(dY m f).size<=66000:=by
 by_cases hf:f<first
 ·rw[h.file f hf];exact Nat.zero_le _
 ·have h2:=hl.safe (f-first).toNat
  rw[show first+((f-first).toNat:Int)=f by omega]at h2
  unfold dY
  rw[h2,CX,lX]
  exact Tv hl.ok _
theorem Low.fits{n:Nat}(h:Low first m ps)(hl:Log first R T m ps)(h1:1<=first)(h2:first+(R.length+T.length:Nat)<=1073741824)(hn:n<=100000)(hT:T.length<100000):Fits n m ps:=by
 have hp:=h.pcs hl
 refine⟨hn,by rw[hp,xA];exact hT,fun f=>by have:=h.size hl f;omega,fun p hq=> ?_⟩
 rw[hp]at hq
 obtain⟨h3,h4,h5⟩:=uH first R T hl.T p hq
 exact⟨h3,by omega,by omega⟩
end
end Wl
namespace Pt
open aJ Fr Vn Ops Wl
def lu(k:Nat)(l:List ByteArray):List (List UInt8):=(80::put k)::l.map fun s=>84::bl s
theorem JU(k:Nat)(l:List ByteArray)(s:ByteArray):lu k (l++[s])=lu k l++[84::bl s]:=by simp[lu]
theorem yE(k:Nat)(l:List ByteArray):(lu k l).length=l.length+1:=by simp[lu]
theorem aX.not{F:Nat->Prop}{w:World}{g n k:Nat}{m:aJ.Safe}{ps:List aJ.Pc}{aV aO:Int}{t:TypeId}{cs:Array Value}(h:aX w g F n m ps aV aO)(hh:Has w k t cs)(h1:t≠104)(h2:t≠118):¬F k:=by
 obtain⟨mb,A,c,hF,hg,hm,ho⟩:=h
 intro hf
 rcases(hF k).1 hf with rfl|rfl|hx
 ·exact hg.ne hh (fun e=>h1 e.symm) rfl
 ·exact hm.ne hh rfl
 ·exact own_ne ho hh (fun e=>h2 e.symm) hx
theorem Src.Tz{F:Nat->Prop}{w w':World}{size m:Nat}{A:Option Addr}{news:List Value}(h:Src w size A m news)(hk:Kept F w w')(hf:0<m->∀ad,A=some ad->¬F ad.block):Src w' size A m news:=by
 rcases Nat.eq_zero_or_pos m with rfl|h0
 ·have e:news=[]:=List.eq_nil_of_length_eq_zero (by have:=h.1;omega)
  rw[e]
  exact Src.nil _ _ _
 ·exact h.kept hk (hf h0)
theorem NQ(a b:List UInt8):bu a++bu b=bu (a++b):=by
 apply ByteArray.ext
 simp[bu]
abbrev JV(w:World)(gp:Nat)(v0:Value)(g:Nat)(first:Int)(v3:Value):Prop:=Has w gp 157 #[v0,.pointer (some ⟨g,0,none⟩),.int .i64 first,v3]
def Gx(w:World)(gp g:Nat)(F:Nat->Prop)(n:Nat)(m:aJ.Safe)(ps:List aJ.Pc)(aV aO f:Int)(l:List ByteArray)(e:Ending)(w':World):Prop:=
 e=.returned (.int .i64 0)/\∃F' gw A c,aX w' g F' (n+(ps++iK f [] (lu l.length l)).length) (kK m (ps++iK f [] (lu l.length l))) [] aV aO/\AX w' gw g (f+lastOf (cur [] (lu l.length l)))/\JV w' gp (.pointer (some ⟨gw,0,none⟩)) g f (.slice A l.length c)/\
  aF 9 1 w.heap.size w' A l.length c (l.map Value.string)/\w.heap.size<=gw/\iH w F F'/\Kept (fun k=>F k\/k=gp) w w'
section
variable{F:Nat->Prop}{w:World}{g gp n:Nat}{m:aJ.Safe}{ps:List aJ.Pc}{aV aO f first:Int}
theorem ZK(T:List (List UInt8)):lastOf (cur [] T)<=T.length:=by
 have h1:=AV (cur [] T)
 have h2:=zq [] T
 simp at h2
 omega
structure CZ(w:World)(gp g be:Nat)(F:Nat->Prop)(n:Nat)(m:aJ.Safe)(ps:List aJ.Pc)(aV aO f:Int)(gw:Nat)(T:List (List UInt8))(F':Nat->Prop)(wr:World):Prop where
 d:aX wr g F' n m (ps++iK f [] T) aV aO
 wl:AX wr gw g (f+lastOf (cur [] T))
 grows:iH w F F'
 k:Kept F w wr
 be:Has wr be 30 #[.int .i64 0]
theorem CZ.app{be gw:Nat}{T:List (List UInt8)}{F':Nat->Prop}{wr w3:World}(h:CZ w gp g be F n m ps aV aO f gw T F' wr)(hl:Log f [] T m (ps++iK f [] T))(hgw:w.heap.size<=gw){t:List UInt8}{F3:Nat->Prop}
  (hd:aX w3 g F3 n m (ps++iK f [] T++[(f+lastOf (cur [] T),bu (bM t))]) aV aO) (hg:iH wr F' F3) (hw:AX w3 gw g (f+lastOf (cur [] (T++[t])))) (hk:Kept (fun k=>F' k\/k=gw) wr w3):CZ w gp g be F n m ps aV aO f gw (T++[t]) F3 w3:=by
 refine⟨?_,hw,h.grows.trans hg h.k.size,h.k.trans hk (fun k hk=> ?_),h.be.kept hk (fun hf=> ?_)⟩
 ·rw[zu,<-List.append_assoc];exact hd
 ·rcases hk with hk|rfl
  ·exact h.grows k hk
  ·exact .inr hgw
 ·rcases hf with hf|rfl
  ·exact aX.not h.d h.be (by decide) (by decide) hf
  ·exact h.be.ne h.wl (by decide) rfl
theorem CZ.keep{be gw:Nat}{T:List (List UInt8)}{F':Nat->Prop}{wr w3:World}(h:CZ w gp g be F n m ps aV aO f gw T F' wr)(hk:Kept aj wr w3):CZ w gp g be F n m ps aV aO f gw T F' w3:=
 ⟨h.d.kept hk (fun _ _ z=>z),h.wl.kept hk (fun z=>z),h.grows,h.k.then (hk.mono (fun _ z=>z.elim)),h.be.kept hk (fun z=>z)⟩
theorem TA{T:List (List UInt8)}(h:Log f [] [] m ps)(hT:∀t∈T,t.length<=65536):Log f [] T m (ps++iK f [] T):=by
 refine⟨h.safe,?_,h.ok,hT⟩
 have h1:(iK f [] T).filter (mine f)=iK f [] T:=List.filter_eq_self.2 (fun p hp=>by
  have:=uH f [] T hT p hp
  simpa [mine]using this.2.1)
 rw[List.filter_append,h1,h.rest]
 rfl
theorem NR{T:List (List UInt8)}(h:Fits n m ps)(hT:∀t∈T,t.length<=65536)(h1:1<=f)(h2:f+T.length<=1073741824)(h3:ps.length+T.length<100000):Fits n m (ps++iK f [] T):=by
 refine⟨h.n,by rw[List.length_append,xA];exact h3,h.file,fun p hp=> ?_⟩
 rcases List.mem_append.1 hp with hp|hp
 ·exact h.pc p hp
 ·obtain⟨h4,h5,h6⟩:=uH f [] T hT p hp
  simp at h6
  exact⟨h4,by omega,by omega⟩
theorem EF{be gw:Nat}{T:List (List UInt8)}{F':Nat->Prop}{wr:World}(h:CZ w gp g be F n m ps aV aO f gw T F' wr)(hl:Log f [] [] m ps)(hf:Fits n m ps)(hT:∀t∈T,t.length<=65536)(hgw:w.heap.size<=gw)(h1:1<=f)(h2:f+T.length<=1073741824)(h3:ps.length+T.length<100000)(s:ByteArray)(hs:s.size<=65536):
  Calls Tryz.prog 192 #[.pointer (some ⟨gw,0,none⟩),.string s] wr fun e w'=>e=.returned (.int .i64 0)/\∃F3,CZ w gp g be F n m ps aV aO f gw (T++[bl s]) F3 w':=by
 have FK:=TA hl hT
 have hct:=ZK T
 refine(CY h.d h.wl FK (NR hf hT h1 h2 h3) h1 (by omega) s hs).mono ?_
 rintro e w3 ⟨he,F3,hd,hg,hw,hk⟩
 exact⟨he,F3,h.app FK hgw hd hg hw hk⟩
end
end Pt
namespace Pt
open aJ Fr Vn Ops Wl
section
variable{F:Nat->Prop}{w:World}{g gp n:Nat}{m:aJ.Safe}{ps:List aJ.Pc}{aV aO f first:Int}
theorem ab2(p:List UInt8):(⟨#[80]⟩:ByteArray)++bu p=bu (80::p):=NQ [80] p
theorem YA(s:ByteArray):(⟨#[84]⟩:ByteArray)++s=bu (84::bl s):=by
 have:=NQ [84] (bl s)
 rw[Iw]at this
 exact this
theorem Gy(v0 v3:Value)(hp:JV w gp v0 g first v3)(hd:aX w g F n m ps aV aO)(FK:Log f [] [] m ps)(hf:Fits n m ps)(A:Option Addr)(c:Nat)(l:List ByteArray)(hA:Src w 1 A l.length (l.map Value.string))
  (Gz:0<l.length->∀ad,A=some ad->¬F ad.block/\ad.block≠gp) (hs:∀s∈l,s.size<65536) (h1:1<=f) (h2:f+l.length+2<=1073741824) (h3:ps.length+l.length+2<100000):
  Calls Tryz.prog 105 #[.pointer (some ⟨gp,0,none⟩),.int .i64 f,.slice A l.length c] w (Gx w gp g F n m ps aV aO f l):=by
 have hmf:∀(fn:Fn) (first cap:Array Value) (w:World),(Instr.makeFunc fn first cap).run Tryz.prog w=.ok (.func fn first cap) w:=fun _ _ _ _=>rfl
 obtain⟨R,hR⟩:∃R,Gx w gp g F n m ps aV aO f l=R:=⟨_,rfl⟩
 rw[hR]
 have HR:=ah hR
 obtain⟨W1,hW1⟩:∃W1,w.alloc (.cells #[.int .i64 0] 30)=W1:=⟨_,rfl⟩
 have hk1:Kept aj w W1:=by rw[<-hW1];exact(Kept.refl _ _).alloc _
 have hbe:Has W1 w.heap.size 30 #[.int .i64 0]:=by rw[<-hW1];exact Has.new _ _ _
 have hd1:=hd.kept hk1 (fun _ _ z=>z)
 have hp1:=hp.kept hk1 (fun z=>z)
 have c1:w.cell? ⟨gp,1,none⟩=some (.pointer (some ⟨g,0,none⟩)):=hp.cell 1
 have hgl:=hp.lt
 have aaW:¬F gp:=aX.not hd hp (by decide) (by decide)
 have hop:=Td hd1 FK hf h1 (by omega) (by decide)
 have hput:=fun W=>vS l.length (by omega) W
 have hpl:=kX (n:=l.length) (by omega)
 obtain⟨p,hpe⟩:∃p,put l.length=p:=⟨_,rfl⟩
 rw[hpe]at hput hpl
 have HW1:=ah hW1;have gI:=ah hk1;have Eg:=ah hbe;have HD:=ah hd;have HP:=ah hp;have HOP:=ah hop;have Du:=ah hput;have GG:=ah hpl;have zK:=ah hpe
 have aaX:=ah FK;have HF:=ah hf;have HA:=ah hA;have YB:=ah Gz;have HS:=ah hs;have YC:=ah aaW
 have hpz:(bu p).size=p.length:=lX p
 have q1:¬9223372036854775807<(⟨#[80]⟩:ByteArray).size+(bu p).size:=by rw[hpz];show¬_<1+_;omega
 clear hR hW1 hk1 hbe hd1 hp1 hd hp hop hput hpl hpe FK hf hA Gz hs aaW hpz
 go_enter_defers Tryz.func105,Tryz.ntmps105
 go_wp2_with fail
 rw[HW1.out]
 refine HOP.out.mono ?_
 rintro e w2 ⟨gw,A2,c2,rfl,hwl,hgw,-,hb2⟩
 have hk2:Kept aj w w2:=gI.out.then (Kept.of_below hb2 (fun k hk _=>hk))
 have aaY:CZ w gp g w.heap.size F n m ps aV aO f gw [] F w2:=⟨by show aX w2 g F n m (ps++[]) aV aO;rw[List.append_nil];exact HD.out.kept hk2 (fun _ _ z=>z),hwl,iH.refl _ _,hk2.mono (fun _ z=>z.elim),Eg.out.kept (Kept.of_below (F:=aj) hb2 (fun k hk _=>hk)) (fun z=>z)⟩
 have WT:w.heap.size<=gw:=Nat.le_trans gI.out.size hgw
 have HB:=ah aaY
 clear hwl hgw hb2 hk2 aaY c1
 go_wp2_with fail
 refine(FI _).mono ?_
 rintro e w' ⟨rfl,rfl⟩
 go_wp2_with fail
 refine(Du.out _).mono ?_
 rintro e w3 ⟨rfl,hk3⟩
 have HB3:=ah (HB.out.keep hk3)
 have hnt:∀t∈([]:List (List UInt8)),t.length<=65536:=fun t ht=>by cases ht
 have hap:=EF HB3.out aaX.out HF.out hnt WT h1 (by simp;omega) (by simp;omega) (bu (80::p)) (by rw[lX];simp;have:=GG.out;omega)
 have e1:([]:List (List UInt8))++[bl (bu (80::p))]=lu l.length (l.take 0):=by rw[kN,<-zK.out];rfl
 rw[e1]at hap
 have TB:=ah hap
 clear hk3 hap e1 hnt
 go_wp2_with fail
 rw[ab2]
 refine TB.out.mono ?_
 rintro e w4 ⟨rfl,F4,hb4⟩
 have HB4:=ah hb4
 clear hb4 q1
 go_wp2_with fail
 refine(FI _).mono ?_
 rintro e w' ⟨rfl,rfl⟩
 go_wp2_with fail
 go_loopw [35] (fun v35 wr=>∃(i:Nat) (F':Nat->Prop),i<=l.length/\v35=.int .i64 i/\CZ w gp g w.heap.size F n m ps aV aO f gw (lu l.length (l.take i)) F' wr) (fun v35 _=>l.length-(intOf v35).toNat)
 case atStart=>exact⟨0,F4,Nat.zero_le _,rfl,HB4.out⟩
 case round=>
  obtain⟨i,F',hi,rfl,hb⟩:=hrel
  have wE:=ah hb
  have hsrc:Src wr 1 A l.length (l.map Value.string):=Src.Tz HA.out hb.k (fun h0 ad e=>(YB.out h0 ad e).1)
  have hpr:=HP.out.kept hb.k YC.out
  have JW:=ah hsrc;have HPR:=ah hpr
  have hTi:∀t∈lu l.length (l.take i),t.length<=65536:=by
   intro t ht
   unfold lu at ht
   rcases List.mem_cons.1 ht with rfl|ht
   ·rw[zK.out];simp;have:=GG.out;omega
   ·rw[List.mem_map]at ht
    obtain⟨s,hs,rfl⟩:=ht
    have:=HS.out s (List.mem_of_mem_take hs)
    simp[dh];omega
  have hTl:(lu l.length (l.take i)).length<=l.length+1:=by rw[yE,List.length_take];omega
  have NS:=ah hTi;have JX:=ah hTl
  clear hb hsrc hpr hTi hTl
  by_cases hil:i<l.length
  ·obtain⟨s,hs⟩:∃s,l[i]? =some s:=⟨_,List.getElem?_eq_getElem hil⟩
   obtain⟨ad,rfl,-,e0⟩:=AU.Gt JW.out (by omega) i s hs
   have hs6:s.size<65536:=HS.out s (List.mem_of_getElem? hs)
   have q1:¬9223372036854775807<(⟨#[84]⟩:ByteArray).size+s.size:=by show¬_<1+_;omega
   have hap:=EF wE.out aaX.out HF.out NS.out WT h1 (by have:=JX.out;omega) (by have:=JX.out;omega) (bu (84::bl s)) (by rw[lX];simp[dh];omega)
   have e1:lu l.length (l.take i)++[bl (bu (84::bl s))]=lu l.length (l.take (i+1)):=by rw[kN,aJ.take_snoc hs,JU]
   rw[e1]at hap
   have TB:=ah hap
   clear hs hs6 hap e1
   go_wp2_with fail
   rw[YA]
   refine TB.out.mono ?_
   rintro e w5 ⟨rfl,F5,hb5⟩
   have iy:=ah hb5
   clear hb5 q1
   go_wp2_with fail
   refine(FI _).mono ?_
   rintro e w' ⟨rfl,rfl⟩
   go_wp2
   go_roundw
   case rel=>exact⟨i+1,F5,by omega,by go_num,iy.out⟩
   case measure=>simp[intOf];omega
  ·obtain rfl:i=l.length:=by omega
   rw[List.take_length]at wE NS JX
   have hfi:=NR HF.out NS.out h1 (by have:=JX.out;omega) (by have:=JX.out;omega)
   have htt:=hfi.total
   have hsy:=Jz wE.out.d hfi.i64 (by have:=hfi.len;omega) (by have:=hfi.n;omega) 100000 hfi.file (by omega)
   have d1:wr.cell? ⟨gp,1,none⟩=some (.pointer (some ⟨g,0,none⟩)):=HPR.out.cell 1
   have HSY:=ah hsy
   clear hfi htt hsy
   go_wp2_with fail
   refine HSY.out.mono ?_
   rintro e w5 ⟨rfl,hd5,hk5⟩
   have Px:Kept F w w5:=wE.out.k.trans hk5 (fun k hk=>wE.out.grows k hk)
   have aaZ:=Src.Tz HA.out Px (fun h0 ad e=>(YB.out h0 ad e).1)
   have aa0:=HP.out.kept Px YC.out
   have aa1:=wE.out.be.kept hk5 (fun hf=>aX.not wE.out.d wE.out.be (by decide) (by decide) hf)
   have aa2:=wE.out.wl.kept hk5 (fun hf=>aX.ne wE.out.d wE.out.wl hf)
   have aa3:=ah Px;have JY:=ah aa0;have Py:=ah aa1;have WU:=ah aa2;have HD5:=ah hd5
   have hcl:=clone_any w5 A c l aaZ (by omega)
   have o9:=ah hcl
   clear Px aaZ aa0 aa1 aa2 hcl hd5 hk5 d1
   go_wp2_with fail
   refine o9.out.mono ?_
   rintro e w6 ⟨A6,c6,rfl,AY,hb6⟩
   have Pz:Kept aj w5 w6:=Kept.of_below hb6 (fun k hk _=>hk)
   have AZ:=JY.out.kept Pz (fun z=>z)
   have PD:=Py.out.kept Pz (fun z=>z)
   have g0:=AZ.frozen 0
   have g2:=AZ.frozen 2
   have g3:=AZ.frozen 3
   have x0:w6.cell? ⟨gp,0,none⟩=some v0:=AZ.cell 0
   have x2:w6.cell? ⟨gp,2,none⟩=some (.int .i64 first):=AZ.cell 2
   have x3:w6.cell? ⟨gp,3,none⟩=some v3:=AZ.cell 3
   have y0:w6.cell? ⟨w.heap.size,0,none⟩=some (.int .i64 0):=PD.cell 0
   have z0:=PD.frozen 0
   have hne:gp≠w.heap.size:=by omega
   have JZ:=ah AZ;have acK:=ah PD;have jV:=ah Pz;have zQ:=ah AY
   clear AZ PD Pz AY hb6
   go_wp2_with fail
   obtain⟨W7,TC⟩:∃W7,(((w6.setCell ⟨gp,0,none⟩ (.pointer (some ⟨gw,0,none⟩))).setCell ⟨gp,2,none⟩ (.int .i64 f)).setCell ⟨gp,3,none⟩ (.slice A6 l.length c6)).setCell ⟨w.heap.size,0,none⟩ (.int .i64 0)=W7:=⟨_,rfl⟩
   have rJ:Kept (fun k=>k=gp\/k=w.heap.size) w6 W7:=by rw[<-TC];exact((((Kept.refl _ w6).put (.inl (.inl rfl))).put (.inl (.inl rfl))).put (.inl (.inl rfl))).put (.inl (.inr rfl))
   have hp7:JV W7 gp (.pointer (some ⟨gw,0,none⟩)) g f (.slice A6 l.length c6):=by rw[<-TC];exact(((JZ.out.put 0 (.pointer (some ⟨gw,0,none⟩))).put 2 (.int .i64 f)).put 3 (.slice A6 l.length c6)).past hne
   have aa4:Has W7 w.heap.size 30 #[.int .i64 0]:=by rw[<-TC];exact(((acK.out.past (fun e=>hne e.symm)).past (fun e=>hne e.symm)).past (fun e=>hne e.symm)).dB rfl
   rw[TC]
   have u0:W7.cell? ⟨w.heap.size,0,none⟩=some (.int .i64 0):=aa4.cell 0
   have hfin:R (.returned (.int .i64 0)) W7:=by
    rw[<-HR.out]
    have hkn:∀k,F' k->k≠gp/\k≠w.heap.size:=fun k hk=>⟨fun e=>aX.not HD5.out JY.out (by decide) (by decide) (e▸hk),fun e=>aX.not HD5.out Py.out (by decide) (by decide) (e▸hk)⟩
    refine⟨rfl,F',gw,A6,c6,(HD5.out.kept jV.out (fun _ _ z=>z)).kept rJ (fun k hk h=>by rcases h with h|h;exact(hkn k hk).1 h;exact(hkn k hk).2 h),(WU.out.kept jV.out (fun z=>z)).kept rJ (fun h=> ?_),hp7,⟨aC zQ.out.1 rJ (fun k hk h=> ?_),fun k hk=>Nat.le_trans aa3.out.size (zQ.out.2 k hk)⟩,WT,wE.out.grows,?_⟩
    ·rcases h with h|h
     ·exact JY.out.ne WU.out (by decide) h.symm
     ·exact Py.out.ne WU.out (by decide) h.symm
    ·have h8:=zQ.out.2 k hk
     have h9:=JY.out.lt
     have h10:=Py.out.lt
     rcases h with h|h<;>omega
    ·exact((aa3.out.mono (fun k h=> .inl h)).then (jV.out.mono (fun _ z=>z.elim))).trans rJ (fun k h=>by rcases h with h|h;exact .inl (.inr h);exact .inr (by omega))
   have bI:=ah hfin
   clear hfin rJ hp7 aa4 TC
   refine leaves_cons (f:=189) (args:=#[.pointer (some ⟨w.heap.size,0,none⟩)]) (by simp) (by simp[go_sem]) ?_
   refine(Tt _ _).mono ?_
   rintro e u w8 ⟨rfl,rfl,rfl⟩
   simp[Leaves,settle,results,Tryz.results105,go_sem,u0]
   exact bI.out
end
end Pt
end Go.Proofs.YtolkgbafebehfaaGreat

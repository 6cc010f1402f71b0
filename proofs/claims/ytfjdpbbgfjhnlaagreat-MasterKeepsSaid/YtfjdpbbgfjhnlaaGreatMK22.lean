/- Part 23 of what the proof needs. -/
import Derived.Test.YtfjdpbbgfjhnlaaGreatMK21
set_option linter.unusedSimpArgs false
set_option linter.unusedVariables false
set_option maxHeartbeats 32000000
set_option maxRecDepth 100000
namespace Go.Proofs.YtfjdpbbgfjhnlaaGreat
open Go.RowKit
set_option maxRecDepth 100000
namespace Pt
open aH Fr Vn Ops Wl
section
variable{F:Nat->Prop}{w:World}{g gp n:Nat}{m:aH.Safe}{ps:List aH.Pc}{aU aK f first:Int}
theorem agj(p:List UInt8):(⟨#[80]⟩:ByteArray)++bG p=bG (80::p):=SV [80] p
theorem acI(s:ByteArray):(⟨#[84]⟩:ByteArray)++s=bG (84::bl s):=by
 have:=SV [84] (bl s)
 rw[yh]at this
 exact this
theorem La(v0 v3:Value)(hp:Ey w gp v0 g first v3)(hd:aX w g F n m ps aU aK)(Ag:Log f [] [] m ps)(hf:Fits n m ps)(A:Option Addr)(c:Nat)(l:List ByteArray)(hA:Src w 1 A l.length (l.map Value.string))
  (Lc:0<l.length->∀ad,A=some ad->¬F ad.block/\ad.block≠gp) (hs:∀s∈l,s.size<65536) (h1:1<=f) (h2:f+l.length+2<=1073741824) (h3:ps.length+l.length+2<100000):
  Calls Tryz.prog 59 #[.pointer (some ⟨gp,0,none⟩),.int .i64 f,.slice A l.length c] w (KZ w gp g F n m ps aU aK f l):=by
 have hmf:∀(fn:Fn) (first cap:Array Value) (w:World),(Instr.makeFunc fn first cap).run Tryz.prog w=.ok (.func fn first cap) w:=fun _ _ _ _=>rfl
 obtain⟨R,hR⟩:∃R,KZ w gp g F n m ps aU aK f l=R:=⟨_,rfl⟩
 rw[hR]
 have HR:=ah hR
 obtain⟨W1,hW1⟩:∃W1,w.alloc (.cells #[.int .i64 0] 32)=W1:=⟨_,rfl⟩
 have hk1:Kept aj w W1:=by rw[<-hW1];exact(Kept.refl _ _).alloc _
 have hbe:Has W1 w.heap.size 32 #[.int .i64 0]:=by rw[<-hW1];exact Has.new _ _ _
 have hd1:=hd.kept hk1 (fun _ _ z=>z)
 have hp1:=hp.kept hk1 (fun z=>z)
 have c1:w.cell? ⟨gp,1,none⟩=some (.pointer (some ⟨g,0,none⟩)):=hp.cell 1
 have hgl:=hp.lt
 have aeQ:¬F gp:=aX.not hd hp (by decide) (by decide)
 have hop:=KT hd1 Ag hf h1 (by omega) (by decide)
 have hput:=fun W=>yj l.length (by omega) W
 have hpl:=mD (n:=l.length) (by omega)
 obtain⟨p,hpe⟩:∃p,put l.length=p:=⟨_,rfl⟩
 rw[hpe]at hput hpl
 have HW1:=ah hW1;have fF:=ah hk1;have yN:=ah hbe;have HD:=ah hd;have HP:=ah hp;have KH:=ah hop;have Gz:=ah hput;have Ez:=ah hpl;have Dt:=ah hpe
 have aeR:=ah Ag;have HF:=ah hf;have HA:=ah hA;have HAF:=ah Lc;have HS:=ah hs;have HGF:=ah aeQ
 have hpz:(bG p).size=p.length:=lQ p
 have q1:¬9223372036854775807<(⟨#[80]⟩:ByteArray).size+(bG p).size:=by rw[hpz];show¬_<1+_;omega
 clear hR hW1 hk1 hbe hd1 hp1 hd hp hop hput hpl hpe Ag hf hA Lc hs aeQ hpz
 go_enter_defers Tryz.func59,Tryz.ntmps59
 go_wp2_with fail
 rw[HW1.out]
 refine KH.out.mono ?_
 rintro e w2 ⟨gw,A2,c2,rfl,hwl,hgw,-,hb2⟩
 have hk2:Kept aj w w2:=fF.out.then (Kept.of_below hb2 (fun k hk _=>hk))
 have aeS:Gi w gp g w.heap.size F n m ps aU aK f gw [] F w2:=⟨by show aX w2 g F n m (ps++[]) aU aK;rw[List.append_nil];exact HD.out.kept hk2 (fun _ _ z=>z),hwl,ji.refl _ _,hk2.mono (fun _ z=>z.elim),yN.out.kept (Kept.of_below (F:=aj) hb2 (fun k hk _=>hk)) (fun z=>z)⟩
 have aa9:w.heap.size<=gw:=Nat.le_trans fF.out.size hgw
 have HB:=ah aeS
 clear hwl hgw hb2 hk2 aeS c1
 go_wp2_with fail
 refine(JW _).mono ?_
 rintro e w' ⟨rfl,rfl⟩
 go_wp2_with fail
 refine(Gz.out _).mono ?_
 rintro e w3 ⟨rfl,hk3⟩
 have HB3:=ah (HB.out.keep hk3)
 have hnt:∀t∈([]:List (List UInt8)),t.length<=65536:=fun t ht=>by cases ht
 have hap:=IQ HB3.out aeR.out HF.out hnt aa9 h1 (by simp;omega) (by simp;omega) (bG (80::p)) (by rw[lQ];simp;have:=Ez.out;omega)
 have e1:([]:List (List UInt8))++[bl (bG (80::p))]=jT l.length (l.take 0):=by rw[jd,<-Dt.out];rfl
 rw[e1]at hap
 have Yh:=ah hap
 clear hk3 hap e1 hnt
 go_wp2_with fail
 rw[agj]
 refine Yh.out.mono ?_
 rintro e w4 ⟨rfl,F4,hb4⟩
 have HB4:=ah hb4
 clear hb4 q1
 go_wp2_with fail
 refine(JW _).mono ?_
 rintro e w' ⟨rfl,rfl⟩
 go_wp2_with fail
 go_loopw [35] (fun v35 wr=>∃(i:Nat) (F':Nat->Prop),i<=l.length/\v35=.int .i64 i/\Gi w gp g w.heap.size F n m ps aU aK f gw (jT l.length (l.take i)) F' wr) (fun v35 _=>l.length-(intOf v35).toNat)
 case atStart=>exact⟨0,F4,Nat.zero_le _,rfl,HB4.out⟩
 case round=>
  obtain⟨i,F',hi,rfl,hb⟩:=hrel
  have yK:=ah hb
  have hsrc:Src wr 1 A l.length (l.map Value.string):=Src.Yf HA.out hb.k (fun h0 ad e=>(HAF.out h0 ad e).1)
  have hpr:=HP.out.kept hb.k HGF.out
  have OP:=ah hsrc;have HPR:=ah hpr
  have hTi:∀t∈jT l.length (l.take i),t.length<=65536:=by
   intro t ht
   unfold jT at ht
   rcases List.mem_cons.1 ht with rfl|ht
   ·rw[Dt.out];simp;have:=Ez.out;omega
   ·rw[List.mem_map]at ht
    obtain⟨s,hs,rfl⟩:=ht
    have:=HS.out s (List.mem_of_mem_take hs)
    simp[bJ];omega
  have hTl:(jT l.length (l.take i)).length<=l.length+1:=by rw[tZ,List.length_take];omega
  have SY:=ah hTi;have OQ:=ah hTl
  clear hb hsrc hpr hTi hTl
  by_cases hil:i<l.length
  ·obtain⟨s,hs⟩:∃s,l[i]? =some s:=⟨_,List.getElem?_eq_getElem hil⟩
   obtain⟨ad,rfl,-,e0⟩:=yP.KP OP.out (by omega) i s hs
   have hs6:s.size<65536:=HS.out s (List.mem_of_getElem? hs)
   have q1:¬9223372036854775807<(⟨#[84]⟩:ByteArray).size+s.size:=by show¬_<1+_;omega
   have hap:=IQ yK.out aeR.out HF.out SY.out aa9 h1 (by have:=OQ.out;omega) (by have:=OQ.out;omega) (bG (84::bl s)) (by rw[lQ];simp[bJ];omega)
   have e1:jT l.length (l.take i)++[bl (bG (84::bl s))]=jT l.length (l.take (i+1)):=by rw[jd,aH.take_snoc hs,OO]
   rw[e1]at hap
   have Yh:=ah hap
   clear hs hs6 hap e1
   go_wp2_with fail
   rw[acI]
   refine Yh.out.mono ?_
   rintro e w5 ⟨rfl,F5,hb5⟩
   have jf:=ah hb5
   clear hb5 q1
   go_wp2_with fail
   refine(JW _).mono ?_
   rintro e w' ⟨rfl,rfl⟩
   go_wp2
   go_roundw
   case rel=>exact⟨i+1,F5,by omega,by go_num,jf.out⟩
   case measure=>simp[intOf];omega
  ·obtain rfl:i=l.length:=by omega
   rw[List.take_length]at yK SY OQ
   have hfi:=SX HF.out SY.out h1 (by have:=OQ.out;omega) (by have:=OQ.out;omega)
   have EC:=hfi.total
   have hsy:=Ov yK.out.d hfi.i64 (by have:=hfi.len;omega) (by have:=hfi.n;omega) 100000 hfi.file (by omega)
   have d1:wr.cell? ⟨gp,1,none⟩=some (.pointer (some ⟨g,0,none⟩)):=HPR.out.cell 1
   have HSY:=ah hsy
   clear hfi EC hsy
   go_wp2_with fail
   refine HSY.out.mono ?_
   rintro e w5 ⟨rfl,hd5,hk5⟩
   have UJ:Kept F w w5:=yK.out.k.trans hk5 (fun k hk=>yK.out.grows k hk)
   have aeT:=Src.Yf HA.out UJ (fun h0 ad e=>(HAF.out h0 ad e).1)
   have aeU:=HP.out.kept UJ HGF.out
   have aeV:=yK.out.be.kept hk5 (fun hf=>aX.not yK.out.d yK.out.be (by decide) (by decide) hf)
   have aeW:=yK.out.wl.kept hk5 (fun hf=>aX.ne yK.out.d yK.out.wl hf)
   have aeX:=ah UJ;have IU:=ah aeU;have UK:=ah aeV;have aa':=ah aeW;have HD5:=ah hd5
   have hcl:=clone_any w5 A c l aeT (by omega)
   have nX:=ah hcl
   clear UJ aeT aeU aeV aeW hcl hd5 hk5 d1
   go_wp2_with fail
   refine nX.out.mono ?_
   rintro e w6 ⟨A6,c6,rfl,ED,hb6⟩
   have UL:Kept aj w5 w6:=Kept.of_below hb6 (fun k hk _=>hk)
   have yR:=IU.out.kept UL (fun z=>z)
   have UM:=UK.out.kept UL (fun z=>z)
   have g0:=yR.frozen 0
   have g2:=yR.frozen 2
   have g3:=yR.frozen 3
   have x0:w6.cell? ⟨gp,0,none⟩=some v0:=yR.cell 0
   have x2:w6.cell? ⟨gp,2,none⟩=some (.int .i64 first):=yR.cell 2
   have x3:w6.cell? ⟨gp,3,none⟩=some v3:=yR.cell 3
   have y0:w6.cell? ⟨w.heap.size,0,none⟩=some (.int .i64 0):=UM.cell 0
   have z0:=UM.frozen 0
   have hne:gp≠w.heap.size:=by omega
   have IV:=ah yR;have agY:=ah UM;have jY:=ah UL;have xN:=ah ED
   clear yR UM UL ED hb6
   go_wp2_with fail
   obtain⟨W7,zJ⟩:∃W7,(((w6.setCell ⟨gp,0,none⟩ (.pointer (some ⟨gw,0,none⟩))).setCell ⟨gp,2,none⟩ (.int .i64 f)).setCell ⟨gp,3,none⟩ (.slice A6 l.length c6)).setCell ⟨w.heap.size,0,none⟩ (.int .i64 0)=W7:=⟨_,rfl⟩
   have uI:Kept (fun k=>k=gp\/k=w.heap.size) w6 W7:=by rw[<-zJ];exact((((Kept.refl _ w6).put (.inl (.inl rfl))).put (.inl (.inl rfl))).put (.inl (.inl rfl))).put (.inl (.inr rfl))
   have Yi:Ey W7 gp (.pointer (some ⟨gw,0,none⟩)) g f (.slice A6 l.length c6):=by rw[<-zJ];exact(((IV.out.put 0 (.pointer (some ⟨gw,0,none⟩))).put 2 (.int .i64 f)).put 3 (.slice A6 l.length c6)).past hne
   have aeY:Has W7 w.heap.size 32 #[.int .i64 0]:=by rw[<-zJ];exact(((agY.out.past (fun e=>hne e.symm)).past (fun e=>hne e.symm)).past (fun e=>hne e.symm)).dB rfl
   rw[zJ]
   have u0:W7.cell? ⟨w.heap.size,0,none⟩=some (.int .i64 0):=aeY.cell 0
   have hfin:R (.returned (.int .i64 0)) W7:=by
    rw[<-HR.out]
    have hkn:∀k,F' k->k≠gp/\k≠w.heap.size:=fun k hk=>⟨fun e=>aX.not HD5.out IU.out (by decide) (by decide) (e▸hk),fun e=>aX.not HD5.out UK.out (by decide) (by decide) (e▸hk)⟩
    refine⟨rfl,F',gw,A6,c6,(HD5.out.kept jY.out (fun _ _ z=>z)).kept uI (fun k hk h=>by rcases h with h|h;exact(hkn k hk).1 h;exact(hkn k hk).2 h),(aa'.out.kept jY.out (fun z=>z)).kept uI (fun h=> ?_),Yi,⟨aC xN.out.1 uI (fun k hk h=> ?_),fun k hk=>Nat.le_trans aeX.out.size (xN.out.2 k hk)⟩,aa9,yK.out.grows,?_⟩
    ·rcases h with h|h
     ·exact IU.out.ne aa'.out (by decide) h.symm
     ·exact UK.out.ne aa'.out (by decide) h.symm
    ·have h8:=xN.out.2 k hk
     have h9:=IU.out.lt
     have h10:=UK.out.lt
     rcases h with h|h<;>omega
    ·exact((aeX.out.mono (fun k h=> .inl h)).then (jY.out.mono (fun _ z=>z.elim))).trans uI (fun k h=>by rcases h with h|h;exact .inl (.inr h);exact .inr (by omega))
   have bP:=ah hfin
   clear hfin uI Yi aeY zJ
   refine leaves_cons (f:=112) (args:=#[.pointer (some ⟨w.heap.size,0,none⟩)]) (by simp) (by simp[go_sem]) ?_
   refine(Yd _ _).mono ?_
   rintro e u w8 ⟨rfl,rfl,rfl⟩
   simp[Leaves,settle,results,Tryz.results59,go_sem,u0]
   exact bP.out
end
end Pt
namespace Pt
open aH Fr Vn Ops Wl
structure qo(first:Int)(m:aH.Safe)(ps:List aH.Pc):Prop where
 file:∀x,x<first->m x=none
 pc:∀p∈ps,first<=p.1
section
variable{first:Int}{R:St}{T:List (List UInt8)}{m:aH.Safe}{ps:List aH.Pc}
theorem qo.low(h:qo first m ps):Low first m ps:=⟨fun x hx=>by unfold dN;rw[h.file x hx];rfl,h.pc⟩
theorem OT{x:Int}:∀(ps:List aH.Pc) (m:aH.Safe),(∀p∈ps,p.1≠x)->lG m ps x=m x
 |[],_,_=>rfl
 |p::ps,m,h=>by
  have h1:=h p (by simp)
  rw[lG,OT ps _ (fun q hq=>h q (by simp[hq]))]
  unfold nN
  rw[if_neg (fun e=>h1 e.symm)]
theorem Ld{x:Int}:∀(ps:List aH.Pc) (m:aH.Safe) (left:Nat),(∀p∈ps,p.1≠x)->qE m left ps x=m x
 |[],_,_,_=>rfl
 |p::ps,m,left,h=>by
  have h1:=h p (by simp)
  have h2:∀s,nN m p.1 s x=m x:=fun s=>by unfold nN;rw[if_neg (fun e=>h1 e.symm)]
  unfold qE
  split
  ·split
   ·rfl
   ·exact h2 _
  ·rw[Ld ps _ _ (fun q hq=>h q (by simp[hq])),h2]
theorem qo.sync(h:qo first m ps):qo first (lG m ps) []:=
 ⟨fun x hx=>by rw[OT ps m (fun p hp e=>by have:=h.pc p hp;omega)];exact h.file x hx,fun p hp=>by cases hp⟩
theorem qo.UN(h:qo first m ps)(left:Nat):qo first (qE m left ps) []:=
 ⟨fun x hx=>by rw[Ld ps m left (fun p hp e=>by have:=h.pc p hp;omega)];exact h.file x hx,fun p hp=>by cases hp⟩
theorem qo.append(h:qo first m ps){f:Int}{s:ByteArray}(hf:first<=f):qo first m (ps++[(f,s)]):=
 ⟨h.file,fun p hp=>by
  rcases List.mem_append.1 hp with hp|hp
  ·exact h.pc p hp
  ·simp at hp;subst hp;exact hf⟩
theorem qo.bW(h:qo first m ps)(hl:Log first R T m ps)(x:Int):bW m ps x=decide (first<=x/\x<first+(cur R T).length):=by
 by_cases hx:first<=x
 ·have h1:=(hl.file (x-first).toNat).1
  rw[show first+((x-first).toNat:Int)=x by omega]at h1
  rw[h1]
  congr 1
  rw[eq_iff_iff]
  omega
 ·have h1:¬(first<=x/\x<first+(cur R T).length):=fun h=>hx h.1
  rw[decide_eq_false h1]
  unfold aH.bW
  rw[h.file x (by omega)]
  simp only[Option.isSome_none,Bool.false_or,List.any_eq_false,decide_eq_true_eq]
  intro p hp e
  have:=h.pc p hp
  omega
theorem Log.above(h:Log first R T m ps):Log (first+(cur R T).length) [] [] m ps:=by
 have hno:∀i:Nat,aH.bW m ps (first+(cur R T).length+i)=false:=fun i=>by
  have:=(h.file ((cur R T).length+i)).1
  rw[show first+(((cur R T).length+i:Nat):Int)=first+(cur R T).length+i by omega]at this
  rw[this]
  simp
 refine⟨fun i=> ?_,?_,(fun f hf=>by cases hf),(fun t ht=>by cases ht)⟩
 ·have:=hno i
  unfold aH.bW at this
  simp only[Bool.or_eq_false_iff,Option.isSome_eq_false_iff,Option.isNone_iff_eq_none]at this
  rw[this.1]
  rfl
 ·show _=[]
  rw[List.filter_eq_nil_iff]
  intro p hp hm
  simp only[mine,decide_eq_true_eq]at hm
  have:=hno (p.1-(first+(cur R T).length)).toNat
  rw[show first+((cur R T).length:Int)+((p.1-(first+(cur R T).length)).toNat:Int)=p.1 by omega]at this
  unfold aH.bW at this
  simp only[Bool.or_eq_false_iff,List.any_eq_false,decide_eq_true_eq]at this
  exact this.2 p hp rfl
end
def rP(a b:Int)(m:aH.Safe):aH.Safe:=fun x=>if a<=x/\x<b then m x else none
def vZ(a b:Int)(fl:List Int)(m:aH.Safe):aH.Safe:=fun x=>if x∈fl/\¬(a<=x/\x<b)then none else m x
theorem UO{fl:List Int}(h:fl.Pairwise (· <·)){i:Nat}{x:Int}(hx:fl[i]? =some x):x∉fl.take i:=by
 intro hm
 obtain⟨j,hj,e⟩:=List.getElem_of_mem hm
 rw[List.length_take]at hj
 rw[List.getElem_take]at e
 obtain⟨hi,e2⟩:=List.getElem?_eq_some_iff.1 hx
 have:=List.pairwise_iff_getElem.1 h j i (by omega) hi (by omega)
 omega
theorem iq.congr{w:World}{b n:Nat}{m m':aH.Safe}(h:iq w b n m)(he:∀k,I64 k->m' k=m k):iq w b n m':=by
 obtain⟨D,ho,hD⟩:=h
 refine⟨D,ho,fun k hk=> ?_⟩
 have:=hD k hk
 unfold dN at this⊢
 rw[he k hk]
 exact this
theorem aX.congr{F:Nat->Prop}{w:World}{g n:Nat}{m m':aH.Safe}{ps:List aH.Pc}{aU aK:Int}(h:aX w g F n m ps aU aK)(he:∀k,I64 k->m' k=m k):aX w g F n m' ps aU aK:=by
 obtain⟨mb,A,c,hF,hg,hm,ho⟩:=h
 exact⟨mb,A,c,hF,hg,iq.congr hm he,ho⟩
section
variable{F:Nat->Prop}{w:World}{g gp n:Nat}{m:aH.Safe}{aU aK first:Int}
theorem keep_any(v0 v3:Value)(hp:Ey w gp v0 g first v3)(hd:aX w g F n m [] aU aK)(hn:n<=100000)(a b:Int):
  Calls Tryz.prog 76 #[.pointer (some ⟨gp,0,none⟩),.int .i64 a,.int .i64 b] w fun e w'=>e=.returned (.tuple #[])/\aX w' g F n (rP a b m) [] aU aK/\Kept F w w':=by
 have hfi:=pX hd (fun p hp=>by cases hp) hn (by decide)
 have hgF:¬F gp:=aX.not hd hp (by decide) (by decide)
 have c1:w.cell? ⟨gp,1,none⟩=some (.pointer (some ⟨g,0,none⟩)):=hp.cell 1
 have hlt:=hd.lt
 have pY:=ah hfi;have HD:=ah hd;have HP:=ah hp;have HGF:=ah hgF;have uY:=ah hlt
 clear hfi hd hp hgF hlt
 go_enter Tryz.func76,Tryz.ntmps76
 go_wp2_with fail
 refine pY.out.mono ?_
 rintro e w1 ⟨fl,A,c,rfl,hfa,hown,hnew,hk1⟩
 have Eo:=ah hfa;have ql:=ah hown;have fH:=ah hnew;have fF:=ah hk1
 have hd1:=HD.out.kept hk1 (fun _ _ z=>z)
 have hcap:=fV hown
 unfold maxLen at hcap
 have HD1:=ah hd1
 clear hfa hown hnew hk1 c1 hd1
 go_wp2_with fail
 go_loopw [14] (fun v14 wr=>∃i:Nat,i<=fl.length/\v14=.int .i64 i/\aX wr g F n (vZ a b (fl.take i) m) [] aU aK/\Kept F w1 wr) (fun v14 _=>fl.length-(intOf v14).toNat)
 case atStart=>exact⟨0,Nat.zero_le _,rfl,aX.congr HD1.out (fun k hk=>by unfold vZ;rw[if_neg (fun h=>by simp at h)]),Kept.refl _ _⟩
 case round=>
  obtain⟨i,hi,rfl,hd,hk⟩:=hrel
  have hsrc:Src wr 1 A fl.length (fl.map (Value.int .i64)):=by
   refine Src.bC (aC ql.out hk (fun b hb hf=> ?_))
   have h1:=fH.out b hb
   have h2:=uY.out b hf
   omega
  have hpr:=(HP.out.kept fF.out (fun z=>z)).kept hk HGF.out
  have d1:wr.cell? ⟨gp,1,none⟩=some (.pointer (some ⟨g,0,none⟩)):=hpr.cell 1
  have HD2:=ah hd;have HK:=ah hk;have OP:=ah hsrc
  clear hd hk hsrc hpr
  by_cases hil:i<fl.length
  ·obtain⟨x,hx⟩:∃x,fl[i]? =some x:=⟨_,List.getElem?_eq_getElem hil⟩
   obtain⟨ad,rfl,-,e0⟩:=yP.uK OP.out (by omega) i x hx
   have hxm:=(Eo.out.mem x).1 (List.mem_of_getElem? hx)
   have hnt:=UO Eo.out.rises hx
   have htk:=aH.take_snoc hx
   by_cases hin:a<=x/\x<b
   ·obtain⟨h1,h2⟩:=hin
    have q1:¬x<a:=by omega
    have q2:¬b<=x:=by omega
    have hfin:aX wr g F n (vZ a b (fl.take (i+1)) m) [] aU aK:=aX.congr HD2.out (fun k hk=>by
     unfold vZ
     rw[htk]
     by_cases hkx:k=x
     ·subst hkx
      rw[if_neg (fun h=>h.2 ⟨h1,h2⟩),if_neg (fun h=>hnt h.1)]
     ·simp[hkx])
    have bP:=ah hfin
    clear hfin hxm hnt htk hx
    go_wp2
    go_roundw
    case rel=>exact⟨i+1,by omega,by go_num,bP.out,HK.out⟩
    case measure=>simp[intOf];omega
   ·have aeZ:bW (vZ a b (fl.take i) m) [] x=true:=by
     have:=hxm.2
     unfold bW at this⊢
     unfold vZ
     rw[if_neg (fun h=>hnt h.1)]
     exact this
    have hdr:=aa3 HD2.out x hxm.1 hn aeZ
    have hfin:∀w3,aX w3 g F n (JV (vZ a b (fl.take i) m) x) [] aU aK->aX w3 g F n (vZ a b (fl.take (i+1)) m) [] aU aK:=fun w3 h=>aX.congr h (fun k hk=>by
     unfold JV vZ
     rw[htk]
     by_cases hkx:k=x
     ·subst hkx
      rw[if_pos ⟨by simp,hin⟩,if_pos rfl]
     ·rw[if_neg hkx];simp[hkx])
    have HDR:=ah hdr;have bP:=ah hfin
    clear hdr hfin aeZ hxm hnt htk hx
    by_cases q1:x<a
    ·go_wp2_with fail
     refine HDR.out.mono ?_
     rintro e w3 ⟨rfl,hd3,hk3⟩
     have HD3:=ah (bP.out w3 hd3);have bn:=ah (HK.out.then hk3)
     clear hd3 hk3
     go_wp2
     go_roundw
     case rel=>exact⟨i+1,by omega,by go_num,HD3.out,bn.out⟩
     case measure=>simp[intOf];omega
    ·have q2:b<=x:=by
      rcases Int.lt_or_le x b with h|h
      ·exact absurd ⟨by omega,h⟩ hin
      ·exact h
     go_wp2_with fail
     refine HDR.out.mono ?_
     rintro e w3 ⟨rfl,hd3,hk3⟩
     have HD3:=ah (bP.out w3 hd3);have bn:=ah (HK.out.then hk3)
     clear hd3 hk3
     go_wp2
     go_roundw
     case rel=>exact⟨i+1,by omega,by go_num,HD3.out,bn.out⟩
     case measure=>simp[intOf];omega
  ·obtain rfl:i=fl.length:=by omega
   rw[List.take_length]at HD2
   have hfin:aX wr g F n (rP a b m) [] aU aK:=aX.congr HD2.out (fun k hk=>by
    unfold rP vZ
    by_cases hin:a<=k/\k<b
    ·rw[if_pos hin,if_neg (fun h=>h.2 hin)]
    ·rw[if_neg hin]
     by_cases hm:k∈fl
     ·rw[if_pos ⟨hm,hin⟩]
     ·rw[if_neg (fun h=>hm h.1)]
      have h9:¬bW m [] k=true:=fun h=>hm ((Eo.out.mem k).2 ⟨hk,h⟩)
      unfold bW at h9
      exact(by simpa using h9:m k=none).symm)
   have bP:=ah hfin
   clear hfin
   go_wp2
   go_end0
   exact⟨rfl,bP.out,(fF.out.mono (fun _ z=>z.elim)).then HK.out⟩
end
end Pt
namespace Pt
open aH Fr Vn Ops Wl
structure lu(w:World)(B gp gw g:Nat)(F:Nat->Prop)(n:Nat)(m:aH.Safe)(ps:List aH.Pc)(aU aK first:Int)(R:St)(T:List (List UInt8))(A:Option Addr)(c:Nat)(l:List ByteArray):Prop where
 d:aX w g F n m ps aU aK
 p:Ey w gp (.pointer (some ⟨gw,0,none⟩)) g first (.slice A l.length c)
 wl:Dx w gw g (first+lastOf (cur R T))
 row:aF 9 1 B w A l.length c (l.map Value.string)
 log:Log first R T m ps
 low:qo first m ps
 f1:1<=first
 tx:∃k,texts R++T=jT k l/\k+1<=(texts R).length
 hs:∀s∈l,s.size<65536
def PF(gp gw:Nat)(F:Nat->Prop)(A:Option Addr)(n c:Nat)(k:Nat):Prop:=F k\/k=gp\/k=gw\/(Value.slice A n c).ownBlock=some k
section
variable{w:World}{B gp gw g n c:Nat}{F:Nat->Prop}{m:aH.Safe}{ps:List aH.Pc}{aU aK first:Int}{R:St}{T:List (List UInt8)}{A:Option Addr}{l:List ByteArray}
theorem lu.kept{w':World}(h:lu w B gp gw g F n m ps aU aK first R T A c l)(hk:Kept aj w w'):lu w' B gp gw g F n m ps aU aK first R T A c l:=
 ⟨h.d.kept hk (fun _ _ z=>z),h.p.kept hk (fun z=>z),h.wl.kept hk (fun z=>z),h.row.kept hk,h.log,h.low,h.f1,h.tx,h.hs⟩
theorem wU{v0 v3:Value}{f:Int}(h:Ey w gp v0 g f v3):Calls Tryz.prog 79 #[.pointer (some ⟨gp,0,none⟩)] w fun e w'=>e=.returned (.bool false)/\w=w':=by
 have c1:w.cell? ⟨gp,1,none⟩=some (.pointer (some ⟨g,0,none⟩)):=h.cell 1
 clear h
 go_enter Tryz.func79,Tryz.ntmps79
 go_wp2
 go_ret
 exact⟨rfl,rfl⟩
theorem Le(h:lu w B gp gw g F n m ps aU aK first R T A c l)(hl:l.length<=1000000):
  Calls Tryz.prog 36 #[.pointer (some ⟨gp,0,none⟩)] w fun e w'=>∃A' c',e=.returned (.slice A' l.length c')/\aF 9 1 w.heap.size w' A' l.length c' (l.map Value.string)/\Below w.heap.size w w':=by
 have hno:=wU h.p
 have hcl:=clone_any w A c l (by have:=Src.bC h.row.1;exact this) (by omega)
 have c3:w.cell? ⟨gp,3,none⟩=some (.slice A l.length c):=h.p.cell 3
 have jl:=ah hno;have nX:=ah hcl
 clear hno hcl h hl
 go_enter Tryz.func36,Tryz.ntmps36
 go_wp2_with fail
 refine jl.out.mono ?_
 rintro e w' ⟨rfl,rfl⟩
 go_wp2_with fail
 refine nX.out.mono ?_
 rintro e w' ⟨A',c',rfl,h1,h2⟩
 go_wp2
 go_ret
 exact⟨A',c',rfl,h1,h2⟩
theorem lu.EF(h:lu w B gp gw g F n m ps aU aK first R T A c l):¬F gp/\¬F gw/\gp≠gw:=⟨aX.not h.d h.p (by decide) (by decide),aX.not h.d h.wl (by decide) (by decide),h.p.ne h.wl (by decide)⟩
theorem lu.Fq(h:lu w B gp gw g F n m ps aU aK first R T A c l){k:Nat}(hk:(Value.slice A l.length c).ownBlock=some k):¬F k/\k≠gp/\k≠gw:=by
 obtain⟨cs,hh⟩:=jC h.row.1 hk
 exact⟨aX.not h.d hh (by decide) (by decide),fun e=>by subst e;exact Has.ne hh h.p (by decide) rfl,fun e=>by subst e;exact Has.ne hh h.wl (by decide) rfl⟩
def aba(w:World)(B gp gw g:Nat)(F:Nat->Prop)(n:Nat)(m:aH.Safe)(ps:List aH.Pc)(aU aK first:Int)(R:St)(T:List (List UInt8))(A:Option Addr)(c:Nat)(l:List ByteArray)(s:ByteArray)(e:Ending)(w':World):Prop:=
 e=.returned (.int .i64 0)/\∃F' A' c',lu w' B gp gw g F' n m (ps++[(first+lastOf (cur R T),bG (bI (84::bl s)))]) aU aK first R (T++[84::bl s]) A' c' (l++[s])/\Kept (PF gp gw F A l.length c) w w'/\(∀k,F' k->F k\/w.heap.size<=k)
end
end Pt
namespace Pt
open aH Fr Vn Ops Wl
theorem Lh{k:Nat}(hk:k<18446744073709551616){l:List ByteArray}(h:∀s∈l,s.size<65536):∀t∈jT k l,t.length<=65536:=by
 intro t ht
 unfold jT at ht
 rcases List.mem_cons.1 ht with rfl|ht
 ·have:=mD hk;simp;omega
 ·rw[List.mem_map]at ht
  obtain⟨s,hs,rfl⟩:=ht
  have:=h s hs
  simp[bJ];omega
theorem Ri(T:List (List UInt8)):(cur [] T).length<=T.length:=by
 have:=CO [] T
 simpa using this
theorem abb{f b:Int}{R:St}{m:aH.Safe}(h:Bh f R m)(hb:f+R.length<=b):Bh f R (rP f b m):=by
 intro i
 unfold rP
 by_cases hi:f<=f+(i:Int)/\f+(i:Int)<b
 ·rw[if_pos hi];exact h i
 ·rw[if_neg hi]
  unfold fileAt
  rw[if_neg (by omega)]
theorem Lj{f:Int}{m:aH.Safe}{ps:List aH.Pc}{k:Nat}{l:List ByteArray}(hk:k<18446744073709551616)(hl:∀s∈l,s.size<65536)(h:Log f [] [] m ps):Log f (cur [] (jT k l)) [] (lG m (ps++jc f [] (jT k l))) []:=by
 have:=(Yg h (Lh hk hl)).sync
 exact this
theorem GX{f b:Int}{R:St}{m:aH.Safe}(h:Log f R [] m [])(hb:f+R.length<=b):Log f R [] (rP f b m) []:=⟨abb h.safe hb,rfl,h.ok,h.T⟩
section
variable{w:World}{B gp gw g n c:Nat}{F:Nat->Prop}{m:aH.Safe}{ps:List aH.Pc}{aU aK first:Int}{R:St}{T:List (List UInt8)}{A:Option Addr}{l:List ByteArray}
def OU(w:World)(g:Nat)(F:Nat->Prop)(n:Nat)(aU aK:Int)(e:Ending)(w':World):Prop:=
 ∃gp gw F' m' A c,e=.returned (.tuple #[.pointer (some ⟨gp,0,none⟩),.int .i64 0])/\lu w' w.heap.size gp gw g F' (n+1) m' [] aU aK 1 (cur [] (jT 0 [])) [] A c []/\w.heap.size<=gp/\w.heap.size<=gw/\(∀k,F' k->F k\/w.heap.size<=k)/\Kept F w w'
theorem abd(hd:aX w g F n (fun _=>none) [] aU aK)(hn:n<=100000):Calls Tryz.prog 23 #[.pointer (some ⟨g,0,none⟩)] w (OU w g F n aU aK):=by
 have hfi:=pX hd (fun p hp=>by cases hp) hn (by decide)
 have pY:=ah hfi;have HD:=ah hd
 clear hfi hd
 go_enter Tryz.func23,Tryz.ntmps23
 go_wp2_with fail
 refine pY.out.mono ?_
 rintro e w1 ⟨fl,A,c,rfl,hfa,hown,hnew,hk1⟩
 have hfl:fl=[]:=by
  rcases fl with _|⟨x,fl⟩
  ·rfl
  ·have:=((hfa.mem x).1 (by simp)).2
   simp[bW]at this
 subst hfl
 obtain⟨w2,hw2⟩:∃w2,w1.alloc (.cells #[.pointer none,.pointer (some ⟨g,0,none⟩),.int .i64 0,.slice none 0 0] 110)=w2:=⟨_,rfl⟩
 have hk2:Kept aj w w2:=by rw[<-hw2];exact hk1.alloc _
 have hp2:Ey w2 w1.heap.size (.pointer none) g 0 (.slice none 0 0):=by rw[<-hw2];exact Has.new _ _ _
 have hd2:=HD.out.kept hk2 (fun _ _ z=>z)
 have hfit:Fits n (fun _=>none) []:=⟨hn,by decide,fun f=>Nat.zero_le _,fun p hp=>by cases hp⟩
 have hbg:=La (.pointer none) (.slice none 0 0) hp2 hd2 (SK 1) hfit none 0 [] (Src.nil _ _ _) (fun _ ad e=>by cases e) (fun s hs=>by cases hs) (by decide) (by decide) (by decide)
 have Bl:=ah hbg;have HW2:=ah hw2;have aW:=ah hk2;have fF:=ah hk1.size
 clear hfa hown hnew hk1 hw2 hk2 hp2 hd2 hfit hbg
 go_wp2_with fail
 rw[HW2.out]
 refine Bl.out.mono ?_
 rintro e w3 ⟨rfl,F3,gw,A3,c3,hd3,hw3,hp3,hn3,OV,hg3,hk3⟩
 have hfin:OU w g F n aU aK (.returned (.tuple #[.pointer (some ⟨w1.heap.size,0,none⟩),.int .i64 0])) w3:=by
  refine⟨w1.heap.size,gw,F3,_,A3,c3,rfl,⟨hd3,hp3,hw3,⟨hn3.1,fun k hk=>Nat.le_trans aW.out.size (hn3.2 k hk)⟩,Lj (by decide) (fun s hs=>by cases hs) (SK 1),?_,Int.le_refl _,⟨0,by rw[qU];rfl,by rw[qU];decide⟩,fun s hs=>by cases hs⟩,fF.out,Nat.le_trans aW.out.size OV,fun k hk=> ?_,?_⟩
  ·have:qo 1 (fun _=>none) ([]++jc 1 [] (jT 0 [])):=⟨fun x hx=>rfl,fun p hp=>(wT 1 [] (jT 0 []) (Lh (by decide) (fun s hs=>by cases hs)) p hp).2.1⟩
   exact this.sync
  ·rcases hg3 k hk with h|h
   ·exact .inl h
   ·exact .inr (Nat.le_trans aW.out.size h)
  ·exact(aW.out.mono (fun _ z=>z.elim)).trans hk3 (fun k hk=>by rcases hk with h|h;exact .inl h;exact .inr (by rw[h];exact fF.out))
 have bP:=ah hfin
 clear hd3 hw3 hp3 hn3 OV hg3 hk3 hfin
 go_wp2
 go_ret2
 exact bP.out
end
end Pt
namespace Pt
open aH Fr Vn Ops Wl
theorem OW(w:World)(A:Option Addr)(c:Nat)(l:List ByteArray)(hl:Src w 1 A l.length (l.map Value.string))(hlen:l.length<=1000000)(hs:∀s∈l,s.size<65536):
  Calls Tryz.prog 211 #[.slice A l.length c,.func (.func 124) #[] #[]] w fun e w'=>e=.returned (.int .i64 (-1))/\w=w':=by
 have HL:=ah hl;have HS:=ah hs
 clear hl hs
 go_enter Tryz.func211,Tryz.ntmps211
 go_wp2_with fail
 go_loop [5,8] (fun v5 v8=>∃i:Nat,i<=l.length/\v8=.int .i64 i) (fun _ v8=>l.length-(intOf v8).toNat)
 case atStart=>exact⟨0,Nat.zero_le _,rfl⟩
 case round=>
  obtain⟨i,hi,rfl⟩:=hrel
  by_cases hil:i<l.length
  ·obtain⟨s,hs⟩:∃s,l[i]? =some s:=⟨_,List.getElem?_eq_getElem hil⟩
   obtain⟨ad,rfl,-,e0⟩:=yP.KP HL.out (by omega) i s hs
   have hs6:s.size<65536:=HS.out s (List.mem_of_getElem? hs)
   have hlo:=vJ w s false (decide_eq_false (by omega))
   have WC:=ah hlo
   clear hlo hs6 hs
   go_wp2_with fail
   refine WC.out.mono ?_
   rintro e w' ⟨rfl,rfl⟩
   go_wp2
   go_round
   case rel=>exact⟨i+1,by omega,by go_num⟩
   case measure=>simp[intOf];omega
  ·obtain rfl:i=l.length:=by omega
   go_wp2
   go_ret
   exact⟨rfl,rfl⟩
theorem abe(w:World)(A:Option Addr)(c:Nat)(l:List ByteArray)(hl:Src w 1 A l.length (l.map Value.string))(hlen:l.length<=1000000)(hs:∀s∈l,s.size<65536):
  Calls Tryz.prog 128 #[.slice A l.length c,.func (.func 124) #[] #[]] w fun e w'=>e=.returned (.bool false)/\w=w':=by
 have HI:=ah (OW w A c l hl hlen hs)
 clear hl hlen hs
 go_enter Tryz.func128,Tryz.ntmps128
 go_wp2_with fail
 refine HI.out.mono ?_
 rintro e w' ⟨rfl,rfl⟩
 go_wp2
 go_ret
 exact⟨rfl,rfl⟩
theorem Yj{m:aH.Safe}{ps:List aH.Pc}{fl:List Int}{first:Int}{K:Nat}(h:Ci m ps fl)(hf:∀x,bW m ps x=decide (first<=x/\x<first+K))(h0:0<=first)(h1:first+K<=1152921504606846976)(hK:0<K):
  0<fl.length/\fl[fl.length-1]? =some (first+K-1):=by
 have hm:first+K-1∈fl:=(h.mem _).2 ⟨fZ (by omega) (by omega),by rw[hf];simp;omega⟩
 obtain⟨j,hj,e⟩:=List.getElem_of_mem hm
 have hpos:0<fl.length:=by omega
 refine⟨hpos,?_⟩
 rw[List.getElem?_eq_getElem (by omega)]
 have hy:=((h.mem fl[fl.length-1]).1 (List.getElem_mem _)).2
 rw[hf]at hy
 simp only[decide_eq_true_eq]at hy
 congr 1
 by_cases hjl:j=fl.length-1
 ·subst hjl;exact e
 ·have:=List.pairwise_iff_getElem.1 h.rises j (fl.length-1) hj (by omega) (by omega)
  omega
section
variable{w:World}{B gp gw g n c:Nat}{F:Nat->Prop}{m:aH.Safe}{ps:List aH.Pc}{aU aK first:Int}{R:St}{T:List (List UInt8)}{A:Option Addr}{l:List ByteArray}
def Ll(w:World)(B gp g:Nat)(F:Nat->Prop)(n:Nat)(ps:List aH.Pc)(aU aK first':Int)(l':List ByteArray)(e:Ending)(w':World):Prop:=
 e=.returned (.int .i64 0)/\∃zK F' m' A' c',lu w' B gp zK g F' (n+ps.length+l'.length+1) m' [] aU aK first' (cur [] (jT l'.length l')) [] A' c' l'/\w.heap.size<=zK/\(∀k,F' k->F k\/w.heap.size<=k)/\Kept (fun k=>F k\/k=gp) w w'/\(∀k,(Value.slice A' l'.length c').ownBlock=some k->w.heap.size<=k)
theorem Yk(h:lu w B gp gw g F n m ps aU aK first R T A c l)(hf:Fits n m ps)(hB:B<=w.heap.size)(A0:Option Addr)(c0:Nat)(l':List ByteArray)(hA:Src w 1 A0 l'.length (l'.map Value.string))
  (Lc:0<l'.length->∀ad,A0=some ad->¬F ad.block/\ad.block≠gp) (hs:∀s∈l',s.size<65536) (hl':l'.length<=10000) (h2:first+(cur R T).length+l'.length+2<=1073741824) (h3:n+ps.length+l'.length+2<100000):
  Calls Tryz.prog 68 #[.pointer (some ⟨gp,0,none⟩),.slice A0 l'.length c0] w (Ll w B gp g F n ps aU aK (first+(cur R T).length) l'):=by
 have hno:=wU h.p
 have hcl:=abe w A0 c0 l' hA (by omega) hs
 have hfi:=pX h.d hf.i64 hf.n (by have:=hf.len;omega)
 have c1:w.cell? ⟨gp,1,none⟩=some (.pointer (some ⟨g,0,none⟩)):=h.p.cell 1
 have c2:w.cell? ⟨gp,2,none⟩=some (.int .i64 first):=h.p.cell 2
 obtain⟨K,hK⟩:∃K,(cur R T).length=K:=⟨_,rfl⟩
 have agk:0<K:=by
  rcases Nat.eq_zero_or_pos K with h0|h0
  ·rw[h0]at hK
   have h9:=qU R T
   rw[List.eq_nil_of_length_eq_zero hK]at h9
   obtain⟨k,h4,_⟩:=h.tx
   rw[h4]at h9
   cases h9
  ·exact h0
 have hif:=h.low.bW h.log
 have hab:=Log.above h.log
 rw[hK]at h2 hif hab⊢
 have hf1:=h.f1
 have H:=ah h;have jl:=ah hno;have nX:=ah hcl;have pY:=ah hfi;have HIF:=ah hif;have HAB:=ah hab;have HF:=ah hf;have HA:=ah hA;have HAF:=ah Lc;have HS:=ah hs
 clear h hno hcl hfi hif hab hf hA Lc hs hK
 go_enter Tryz.func68,Tryz.ntmps68
 go_wp2_with fail
 refine jl.out.mono ?_
 rintro e w' ⟨rfl,rfl⟩
 go_wp2_with fail
 refine nX.out.mono ?_
 rintro e w' ⟨rfl,rfl⟩
 go_wp2_with fail
 refine pY.out.mono ?_
 rintro e w1 ⟨fl,A1,c1',rfl,hfa,hown,hnew,hk1⟩
 obtain⟨hpos,hlast⟩:=Yj hfa HIF.out (by omega) (by omega) agk
 obtain⟨ad1,rfl,-,e0⟩:=yP.uK (Src.bC hown) hpos _ _ hlast
 have hcap:=fV hown
 unfold maxLen at hcap
 have hw1:IntKind.i64.wrap ((fl.length:Int)-1)=(fl.length:Int)-1:=IntWalk.i64_in _ (by omega)
 have hd0:0<=(fl.length:Int)-1:=by omega
 have hd1:(fl.length:Int)-1<fl.length:=by omega
 have ht1:((fl.length:Int)-1).toNat=fl.length-1:=by omega
 have hpos':(0:Int)<fl.length:=by omega
 have hp1:=H.out.p.kept hk1 (fun z=>z)
 have ae0:=H.out.d.kept hk1 (fun _ _ z=>z)
 have hbg:=La (.pointer (some ⟨gw,0,none⟩)) (.slice A l.length c) hp1 ae0 HAB.out HF.out A0 c0 l' (HA.out.kept hk1 (fun _ _ z=>z)) HAF.out HS.out (by omega) (by omega) (by omega)
 have hsum:(first+(K:Int)-1)+1=first+K:=by omega
 have Bl:=ah hbg;have fF:=ah hk1;have aia:=ah hsum
 clear hfa hown hnew hk1 hlast hcap hp1 ae0 hbg hsum
 go_wp2_with fail
 refine Bl.out.mono ?_
 rintro e w3 ⟨rfl,F3,gw3,A3,c3,hd3,hw3,hp3,hn3,OV,hg3,hk3⟩
 have ae1:n+(ps++jc (first+K) [] (jT l'.length l')).length=n+ps.length+l'.length+1:=by rw[List.length_append,wS,tZ];omega
 rw[ae1]at hd3
 have hkp:=keep_any (.pointer (some ⟨gw3,0,none⟩)) (.slice A3 l'.length c3) hp3 hd3 (by omega) (first+K) 1073741826
 have ae2:=Ri (jT l'.length l')
 rw[tZ]at ae2
 have hfin:∀w4,aX w4 g F3 (n+ps.length+l'.length+1) (rP (first+K) 1073741826 (lG m (ps++jc (first+K) [] (jT l'.length l')))) [] aU aK->Kept F3 w3 w4->Ll w B gp g F n ps aU aK (first+K) l' (.returned (.int .i64 0)) w4:=by
  intro w4 hd4 hk4
  have hn1:¬F3 gp:=aX.not hd3 hp3 (by decide) (by decide)
  have hn2:¬F3 gw3:=aX.not hd3 hw3 (by decide) (by decide)
  refine⟨rfl,gw3,F3,_,A3,c3,⟨hd4,hp3.kept hk4 hn1,hw3.kept hk4 hn2,⟨aC hn3.1 hk4 (fun k hk hh=> ?_),fun k hk=> ?_⟩,GX (Lj (by omega) HS.out HAB.out) (by omega),⟨fun x hx=>by unfold rP;rw[if_neg (by omega)],fun p hp=>by cases hp⟩,by omega,⟨l'.length,by rw[qU,List.append_nil];rfl,by rw[qU,List.length_append,tZ];simp⟩,HS.out⟩,Nat.le_trans fF.out.size OV,fun k hk=> ?_,?_,fun k hk=>Nat.le_trans fF.out.size (hn3.2 k hk)⟩
  ·obtain⟨cs,h9⟩:=jC hn3.1 hk
   exact aX.not hd3 h9 (by decide) (by decide) hh
  ·exact Nat.le_trans hB (Nat.le_trans fF.out.size (hn3.2 k hk))
  ·rcases hg3 k hk with z|z
   ·exact .inl z
   ·exact .inr (Nat.le_trans fF.out.size z)
  ·refine(((fF.out.mono (fun _ z=>z.elim)).then hk3)).trans hk4 (fun k hk=> ?_)
   rcases hg3 k hk with z|z
   ·exact .inl (.inl z)
   ·exact .inr (Nat.le_trans fF.out.size z)
 have d2:w3.cell? ⟨gp,2,none⟩=some (.int .i64 (first+K)):=hp3.cell 2
 have Lm:=ah hkp;have bP:=ah hfin
 clear hd3 hw3 hp3 hn3 OV hg3 hk3 ae1 hkp hfin ae2 hw1 hd0 hd1 ht1 hpos' e0 hpos
 go_wp2_with fail
 refine Lm.out.mono ?_
 rintro e w4 ⟨rfl,hd4,hk4⟩
 have HE:=ah (bP.out w4 hd4 hk4)
 clear hd4 hk4
 go_wp2
 go_ret
 exact HE.out
end
end Pt
namespace Pt
open aH Fr Vn Ops Wl
theorem OX:∀{a b:List Int},a.Pairwise (· <·)->b.Pairwise (· <·)->(∀x,x∈a↔x∈b)->a=b
 |[],[],_,_,_=>rfl
 |[],y::b,_,_,h=>by have:=(h y).2 (by simp);simp at this
 |x::a,[],_,_,h=>by have:=(h x).1 (by simp);simp at this
 |x::a,y::b,ha,hb,h=>by
  rw[List.pairwise_cons]at ha hb
  have hxy:x=y:=by
   rcases List.mem_cons.1 ((h x).1 (by simp))with e|h1
   ·exact e
   ·rcases List.mem_cons.1 ((h y).2 (by simp))with e|h2
    ·exact e.symm
    ·have:=hb.1 x h1;have:=ha.1 y h2;omega
  subst hxy
  rw[OX ha.2 hb.2 (fun z=> ?_)]
  constructor
  ·intro hz
   rcases List.mem_cons.1 ((h z).1 (List.mem_cons_of_mem _ hz))with e|h1
   ·have:=ha.1 z hz;omega
   ·exact h1
  ·intro hz
   rcases List.mem_cons.1 ((h z).2 (List.mem_cons_of_mem _ hz))with e|h1
   ·have:=hb.1 z hz;omega
   ·exact h1
def nums(first:Int)(K:Nat):List Int:=(List.range K).map fun(i:Nat)=>first+(i:Int)
theorem IW{m:aH.Safe}{ps:List aH.Pc}{fl:List Int}{first:Int}{K:Nat}(h:Ci m ps fl)(hf:∀x,bW m ps x=decide (first<=x/\x<first+K))(h0:0<=first)(h1:first+K<=1152921504606846976):fl=nums first K:=by
 refine OX h.rises ?_ (fun x=> ?_)
 ·unfold nums
  rw[List.pairwise_map]
  exact List.pairwise_lt_range.imp (fun h=>by omega)
 ·rw[h.mem,hf]
  unfold nums
  simp only[decide_eq_true_eq,List.mem_map,List.mem_range]
  constructor
  ·rintro⟨_,h2,h3⟩
   exact⟨(x-first).toNat,by omega,by omega⟩
  ·rintro⟨i,h2,rfl⟩
   exact⟨fZ (by omega) (by omega),by omega,by omega⟩
theorem abf{first:Int}{R:St}{T:List (List UInt8)}{m:aH.Safe}{ps:List aH.Pc}{n:Nat}(h:qo first m ps)(hl:Log first R T m ps)(h1:1<=first)(h2:first+(R.length+T.length:Nat)<=1073741824)(hn:n<=100000)(hT:T.length<100000):Fits n m ps:=
 h.low.fits hl h1 h2 hn hT
structure S9(w0 w:World)(gp gw g:Nat)(F:Nat->Prop)(n:Nat)(m:aH.Safe)(ps:List aH.Pc)(aK first:Int)(R:St)(T:List (List UInt8))(A:Option Addr)(c:Nat)(l:List ByteArray):Prop where
 pt:lu w w0.heap.size gp gw g F n m ps 1 aK first R T A c l
 f:∀k,F k->w0.heap.size<=k
 gp:w0.heap.size<=gp
 gw:w0.heap.size<=gw
 k:Kept aj w0 w
section
variable{w0 w w':World}{gp gw g n c:Nat}{F:Nat->Prop}{m:aH.Safe}{ps:List aH.Pc}{aK first:Int}{R:St}{T:List (List UInt8)}{A:Option Addr}{l:List ByteArray}
theorem S9.kept(h:S9 w0 w gp gw g F n m ps aK first R T A c l)(hk:Kept aj w w'):S9 w0 w' gp gw g F n m ps aK first R T A c l:=
 ⟨h.pt.kept hk,h.f,h.gp,h.gw,h.k.then hk⟩
theorem S9.app(h:S9 w0 w gp gw g F n m ps aK first R T A c l){s:ByteArray}{e:Ending}(ha:aba w w0.heap.size gp gw g F n m ps 1 aK first R T A c l s e w'):
  e=.returned (.int .i64 0)/\∃F' A' c',S9 w0 w' gp gw g F' n m (ps++[(first+lastOf (cur R T),bG (bI (84::bl s)))]) aK first R (T++[84::bl s]) A' c' (l++[s]):=by
 obtain⟨he,F',A',c',hp,hk,hG⟩:=ha
 refine⟨he,F',A',c',hp,fun k hk2=> ?_,h.gp,h.gw,h.k.trans hk (fun k hk2=> .inr ?_)⟩
 ·rcases hG k hk2 with z|z
  ·exact h.f k z
  ·exact Nat.le_trans h.k.size z
 ·rcases hk2 with z|z|z|z
  ·exact h.f k z
  ·rw[z];exact h.gp
  ·rw[z];exact h.gw
  ·exact h.pt.row.2 k z
end
end Pt
end Go.Proofs.YtfjdpbbgfjhnlaaGreat

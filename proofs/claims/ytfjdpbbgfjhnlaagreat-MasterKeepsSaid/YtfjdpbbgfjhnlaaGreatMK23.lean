/- Part 24 of what the proof needs. -/
import Derived.Test.YtfjdpbbgfjhnlaaGreatMK07
import Derived.Test.YtfjdpbbgfjhnlaaGreatMK12
import Derived.Test.YtfjdpbbgfjhnlaaGreatMK22
set_option linter.unusedSimpArgs false
set_option linter.unusedVariables false
set_option maxHeartbeats 32000000
set_option maxRecDepth 100000
namespace Go.Proofs.YtfjdpbbgfjhnlaaGreat
open Go.RowKit
set_option maxRecDepth 100000
namespace dH
open aO Vn Mst lV IM
structure Ah where
 to:Int
 body:ByteArray
deriving DecidableEq
def agl(o:Ah):List Value:=[.int .i64 o.to,.string o.body]
def uM(l:List Ah):List Value:=l.flatMap agl
structure oq where
 first:Int
 R:Wl.St
 T:List (List UInt8)
 l:List ByteArray
structure MR where
 lg:oq
 st:bQ
 pins:List aY
 ns:List Int
 tk:Int
 marks:Int->Option Int
 iE:Int->Option Int
 last:Int
 joins:Int->Bool
 leaves:Int->Bool
 lost:Int->Bool
 out:List Ah
 cnt:Nat
structure MX where
 mb:Nat
 gp:Nat
 gw:Nat
 g:Nat
 sb:Nat
 wb:Nat
 mm:Nat
 se:Nat
 jo:Nat
 le:Nat
 lo:Nat
 F:Nat->Prop
 FS:Nat->Prop
 pA:Option Addr
 pc:Nat
 oA:Option Addr
 oc:Nat
 A:Option Addr
 c:Nat
 n:Nat
 m:aH.Safe
 ps:List aH.Pc
 aU:Int
 aK:Int
def MX.fix(X:MX):List Nat:=[X.mb,X.gp,X.g,X.sb,X.wb,X.mm,X.se,X.jo,X.le,X.lo]
def vO(X:MX)(M:MR):Array Value:=#[.pointer (some ⟨X.g,0,none⟩),.pointer (some ⟨X.gp,0,none⟩),.pointer (some ⟨X.sb,0,none⟩),.slice X.pA M.pins.length X.pc,.pointer (some ⟨X.wb,0,none⟩),.map (some X.mm),.map (some X.se),.int .u64 M.last,.map (some X.jo),.map (some X.le),.map (some X.lo),.slice X.oA M.out.length X.oc]
def parts(X:MX)(M:MR):Nat->Nat->Prop
 |0=>fun k=>k=X.mb
 |1=>Pt.PF X.gp X.gw X.F X.A M.lg.l.length X.c
 |2=>X.FS
 |3=>fun k=>(Value.slice X.pA M.pins.length X.pc).ownBlock=some k
 |4=>fun k=>k=X.wb
 |5=>fun k=>k=X.mm
 |6=>fun k=>k=X.se
 |7=>fun k=>k=X.jo
 |8=>fun k=>k=X.le
 |9=>fun k=>k=X.lo
 |10=>fun k=>(Value.slice X.oA M.out.length X.oc).ownBlock=some k
 |_=>fun _=>False
def rX(w:World)(X:MX)(L:oq):Prop:=Pt.lu w 0 X.gp X.gw X.g X.F X.n X.m X.ps X.aU X.aK L.first L.R L.T X.A X.c L.l
def xB(X:MX)(M:MR)(w:World):Nat->Prop
 |0=>Has w X.mb 90 (vO X M)
 |1=>rX w X M.lg
 |2=>eH w X.sb X.FS M.st
 |3=>w.ownsRow 0 53 3 (.slice X.pA M.pins.length X.pc) M.pins.length (aS M.pins)
 |4=>Ac w X.wb M.ns M.tk
 |5=>eF .u64 23 w X.mm M.cnt M.marks
 |6=>eF .i64 3 w X.se M.cnt M.iE
 |7=>bM w X.jo M.cnt M.joins
 |8=>bM w X.le M.cnt M.leaves
 |9=>bM w X.lo M.cnt M.lost
 |10=>w.ownsRow 0 240 2 (.slice X.oA M.out.length X.oc) M.out.length (uM M.out)
 |_=>True
theorem rX.acJ{w w':World}{X:MX}{L:oq}{G:Nat->Prop}(h:rX w X L)(hk:Kept G w w')(hs:∀k,Pt.PF X.gp X.gw X.F X.A L.l.length X.c k->¬G k):rX w' X L:=
 ⟨h.d.kept hk (fun k hf=>hs k (.inl hf)),h.p.kept hk (hs _ (.inr (.inl rfl))),h.wl.kept hk (hs _ (.inr (.inr (.inl rfl)))),⟨aC h.row.1 hk (fun g hg=>hs g (.inr (.inr (.inr hg)))),h.row.2⟩,h.log,h.low,h.f1,h.tx,h.hs⟩
theorem xB.kept{X:MX}{M:MR}{w w':World}{G:Nat->Prop}{i:Nat}(h:xB X M w i)(hk:Kept G w w')(hs:∀k,parts X M i k->¬G k):xB X M w' i:=by
 rcases i with _|_|_|_|_|_|_|_|_|_|_|i
 ·exact Has.kept h hk (hs _ rfl)
 ·exact rX.acJ h hk hs
 ·exact eH.kept h hk hs
 ·exact aC h hk hs
 ·exact Has.kept h hk (hs _ rfl)
 ·exact eF.kept h hk (hs _ rfl)
 ·exact eF.kept h hk (hs _ rfl)
 ·exact bM.kept h hk (hs _ rfl)
 ·exact bM.kept h hk (hs _ rfl)
 ·exact bM.kept h hk (hs _ rfl)
 ·exact aC h hk hs
 ·trivial
theorem xB.lt{X:MX}{M:MR}{w:World}{i k:Nat}(h:xB X M w i)(hp:parts X M i k):k<w.heap.size:=by
 rcases i with _|_|_|_|_|_|_|_|_|_|_|i
 ·obtain rfl:k=X.mb:=hp
  exact Has.lt h
 ·have hh:rX w X M.lg:=h
  rcases hp with hp|hp|hp|hp
  ·exact hh.d.lt k hp
  ·rw[hp];exact Has.lt hh.p
  ·rw[hp];exact Has.lt hh.wl
  ·exact lH hh.row.1 hp
 ·exact eH.lt h k hp
 ·exact lH h hp
 ·obtain rfl:k=X.wb:=hp
  exact Has.lt h
 ·obtain rfl:k=X.mm:=hp
  exact eF.lt h
 ·obtain rfl:k=X.se:=hp
  exact eF.lt h
 ·obtain rfl:k=X.jo:=hp
  exact bM.lt h
 ·obtain rfl:k=X.le:=hp
  exact bM.lt h
 ·obtain rfl:k=X.lo:=hp
  exact bM.lt h
 ·exact lH h hp
 ·exact hp.elim
structure dD(w:World)(X:MX)(M:MR):Prop where
 c:∀i,xB X M w i
 ap:∀i j k,parts X M i k->parts X M j k->i=j
def dX(X:MX)(M:MR)(k:Nat):Prop:=∃i,parts X M i k
theorem dD.lt{w:World}{X:MX}{M:MR}(h:dD w X M){k:Nat}(hk:dX X M k):k<w.heap.size:=by
 obtain⟨i,hi⟩:=hk
 exact(h.c i).lt hi
theorem dD.quiet{w w':World}{X:MX}{M:MR}(h:dD w X M)(hk:Kept aj w w'):dD w' X M:=⟨fun i=>(h.c i).kept hk (fun _ _ z=>z),h.ap⟩
structure Step(w:World)(X:MX)(M:MR)(w':World)(X':MX)(M':MR):Prop where
 at':dD w' X' M'
 g:∀k,dX X' M' k->dX X M k\/w.heap.size<=k
 k:Kept (dX X M) w w'
 fx:X'.fix=X.fix
theorem Step.mb{w w':World}{X X':MX}{M M':MR}(h:Step w X M w' X' M'):X'.mb=X.mb:=by have:=h.fx;simp only[MX.fix,List.cons.injEq]at this;exact this.1
theorem Step.sb{w w':World}{X X':MX}{M M':MR}(h:Step w X M w' X' M'):X'.sb=X.sb:=by have:=h.fx;simp only[MX.fix,List.cons.injEq]at this;exact this.2.2.2.1
theorem Step.gp{w w':World}{X X':MX}{M M':MR}(h:Step w X M w' X' M'):X'.gp=X.gp:=by have:=h.fx;simp only[MX.fix,List.cons.injEq]at this;exact this.2.1
theorem Step.dk{w w':World}{X X':MX}{M M':MR}(h:Step w X M w' X' M'):X'.g=X.g:=by have:=h.fx;simp only[MX.fix,List.cons.injEq]at this;exact this.2.2.1
theorem Step.refl{w w':World}{X:MX}{M:MR}(h:dD w X M)(hk:Kept aj w w'):Step w X M w' X M:=⟨h.quiet hk,fun _ h=> .inl h,Kept.up hk,rfl⟩
theorem Step.trans{w w1 w2:World}{X X1 X2:MX}{M M1 M2:MR}(h:Step w X M w1 X1 M1)(k:Step w1 X1 M1 w2 X2 M2):Step w X M w2 X2 M2:=
 ⟨k.at',fun i hi=>by
  rcases k.g i hi with y|y
  ·exact h.g i y
  ·have:=h.k.size;exact .inr (by omega),h.k.trans k.k h.g,k.fx.trans h.fx⟩
theorem Step.quiet{w w1 w2:World}{X X1:MX}{M M1:MR}(h:Step w X M w1 X1 M1)(hk:Kept aj w1 w2):Step w X M w2 X1 M1:=h.trans (Step.refl h.at' hk)
theorem dD.upd{w w':World}{X X':MX}{M M':MR}(h:dD w X M)(i:Nat)(hk:Kept (parts X M i) w w')(hsp:∀j,j≠i->parts X' M' j=parts X M j)(hsc:∀j,j≠i->xB X M w' j->xB X' M' w' j)
  (hc:xB X' M' w' i) (hg:∀k,parts X' M' i k->parts X M i k\/w.heap.size<=k) (hmb:X'.fix=X.fix):Step w X M w' X' M':=by
 have hap:∀j k,j≠i->parts X M j k->¬parts X M i k:=fun j k hj h1 h2=>hj (h.ap j i k h1 h2)
 refine⟨⟨fun j=> ?_,fun a b k ha hb=> ?_⟩,fun k hf=> ?_,hk.mono fun k hk=>⟨i,hk⟩,hmb⟩
 ·by_cases hj:j=i
  ·subst hj;exact hc
  ·exact hsc j hj ((h.c j).kept hk (fun k hp=>hap j k hj hp))
 ·by_cases h1:a=i
  ·by_cases h2:b=i
   ·rw[h1,h2]
   ·subst h1
    rw[hsp b h2]at hb
    rcases hg k ha with y|y
    ·exact h.ap a b k y hb
    ·have:=(h.c b).lt hb;omega
  ·by_cases h2:b=i
   ·subst h2
    rw[hsp a h1]at ha
    rcases hg k hb with y|y
    ·exact h.ap a b k ha y
    ·have:=(h.c a).lt ha;omega
   ·rw[hsp a h1]at ha
    rw[hsp b h2]at hb
    exact h.ap a b k ha hb
 ·obtain⟨j,hj⟩:=hf
  by_cases h1:j=i
  ·subst h1
   rcases hg k hj with y|y
   ·exact .inl ⟨j,y⟩
   ·exact .inr y
  ·rw[hsp j h1]at hj
   exact .inl ⟨j,hj⟩
theorem Step.abg{ws w w':World}{X0 X X':MX}{M0 M M':MR}(h:Step ws X0 M0 w X M)(S:Nat->Prop)(hk:Kept (fun k=>∃i,S i/\parts X M i k) w w')(hsp:∀j,¬S j->parts X' M' j=parts X M j)(hsc:∀j,¬S j->xB X M w' j->xB X' M' w' j)
  (hc:∀i,S i->xB X' M' w' i) (hg:∀i k,S i->parts X' M' i k->parts X M i k\/(¬dX X M k/\ws.heap.size<=k)) (hfr:∀i j k,S i->S j->parts X' M' i k->parts X' M' j k->¬dX X M k->i=j) (hmb:X'.fix=X.fix):Step ws X0 M0 w' X' M':=by
 have ha:=h.at'
 refine⟨⟨fun j=> ?_,fun a b k h1 h2=> ?_⟩,fun k hf=> ?_,?_,hmb.trans h.fx⟩
 ·by_cases hj:S j
  ·exact hc j hj
  ·refine hsc j hj ((ha.c j).kept hk (fun k hp=> ?_))
   rintro⟨i,hi,hp2⟩
   obtain rfl:=ha.ap i j k hp2 hp
   exact hj hi
 ·by_cases s1:S a
  ·by_cases s2:S b
   ·rcases hg a k s1 h1 with y|⟨y,_⟩
    ·rcases hg b k s2 h2 with z|⟨z,_⟩
     ·exact ha.ap a b k y z
     ·exact absurd ⟨a,y⟩ z
    ·exact hfr a b k s1 s2 h1 h2 y
   ·rw[hsp b s2]at h2
    rcases hg a k s1 h1 with y|⟨y,_⟩
    ·exact ha.ap a b k y h2
    ·exact absurd ⟨b,h2⟩ y
  ·rw[hsp a s1]at h1
   by_cases s2:S b
   ·rcases hg b k s2 h2 with z|⟨z,_⟩
    ·exact ha.ap a b k h1 z
    ·exact absurd ⟨a,h1⟩ z
   ·rw[hsp b s2]at h2
    exact ha.ap a b k h1 h2
 ·obtain⟨j,hj⟩:=hf
  by_cases s1:S j
  ·rcases hg j k s1 hj with y|⟨_,y⟩
   ·exact h.g k ⟨j,y⟩
   ·exact .inr y
  ·rw[hsp j s1]at hj
   exact h.g k ⟨j,hj⟩
 ·exact h.k.trans hk (fun k hp=>by obtain⟨i,_,hp⟩:=hp;exact h.g k ⟨i,hp⟩)
section
variable{ws w w':World}{X X0:MX}{M M0:MR}
theorem Step.Bo(h:Step ws X0 M0 w X M){A:Option Addr}{c:Nat}{l:List aY}(hr:w.ownsRow 0 53 3 (.slice A l.length c) l.length (aS l))(hnew:∀k,(Value.slice A l.length c).ownBlock=some k->ws.heap.size<=k/\¬dX X M k):
  Step ws X0 M0 (w.setCell ⟨X.mb,3,none⟩ (.slice A l.length c)) {X with pA:=A,pc:=c} {M with pins:=l}:=by
 have hk:Kept (fun k=>k=X.mb) w (w.setCell ⟨X.mb,3,none⟩ (.slice A l.length c)):=(Kept.refl _ w).put (.inl rfl)
 refine h.abg (fun i=>i=0\/i=3) (hk.mono fun k hk=>⟨0,.inl rfl,hk⟩) (fun j hj=> ?_) (fun j hj hc=> ?_) (fun i hi=> ?_) (fun i k hi hp=> ?_) (fun i j k hi hj h1 h2 hf=> ?_) rfl
 ·rcases j with _|_|_|_|_|_|_|_|_|_|_|j<;>first|rfl|exact absurd (Or.inl rfl) hj|exact absurd (Or.inr rfl) hj
 ·rcases j with _|_|_|_|_|_|_|_|_|_|_|j<;>first|exact hc|exact absurd (Or.inl rfl) hj|exact absurd (Or.inr rfl) hj
 ·rcases hi with rfl|rfl
  ·exact Has.dB (h.at'.c 0) rfl
  ·exact aC hr hk (fun g hg e=>(hnew g hg).2 ⟨0,e⟩)
 ·rcases hi with rfl|rfl
  ·exact .inl hp
  ·exact .inr ⟨(hnew k hp).2,(hnew k hp).1⟩
 ·rcases hi with rfl|rfl<;>rcases hj with rfl|rfl
  ·rfl
  ·exact absurd ⟨0,h1⟩ hf
  ·exact absurd ⟨0,h2⟩ hf
  ·rfl
theorem Step.ae3(h:Step ws X0 M0 w X M){w9:World}{A:Option Addr}{c:Nat}{l:List Ah}(hr:w9.ownsRow 0 240 2 (.slice A l.length c) l.length (uM l))(hk9:Kept (fun k=>(Value.slice X.oA M.out.length X.oc).ownBlock=some k) w w9)
  (hg:∀k,(Value.slice A l.length c).ownBlock=some k->(Value.slice X.oA M.out.length X.oc).ownBlock=some k\/w.heap.size<=k):
  Step ws X0 M0 (w9.setCell ⟨X.mb,11,none⟩ (.slice A l.length c)) {X with oA:=A,oc:=c} {M with out:=l}:=by
 have hk:Kept (fun k=>∃i,(i=0\/i=10)/\parts X M i k) w (w9.setCell ⟨X.mb,11,none⟩ (.slice A l.length c)):=Kept.put (hk9.mono fun k hk=>⟨10,.inr rfl,hk⟩) (.inl ⟨0,.inl rfl,rfl⟩)
 have hmb:X.mb<w.heap.size:=(h.at'.c 0).lt rfl
 refine h.abg (fun i=>i=0\/i=10) hk (fun j hj=> ?_) (fun j hj hc=> ?_) (fun i hi=> ?_) (fun i k hi hp=> ?_) (fun i j k hi hj h1 h2 hf=> ?_) rfl
 ·rcases j with _|_|_|_|_|_|_|_|_|_|_|j<;>first|rfl|exact absurd (Or.inl rfl) hj|exact absurd (Or.inr rfl) hj
 ·rcases j with _|_|_|_|_|_|_|_|_|_|_|j<;>first|exact hc|exact absurd (Or.inl rfl) hj|exact absurd (Or.inr rfl) hj
 ·rcases hi with rfl|rfl
  ·exact Has.dB (Has.kept (h.at'.c 0) hk9 (fun e=>absurd (h.at'.ap 0 10 _ rfl e) (by decide))) rfl
  ·exact aC (F:=fun k=>k=X.mb) hr ((Kept.refl _ w9).put (.inl rfl)) (fun g hg2 e=>by
    rcases hg g hg2 with y|y
    ·exact absurd (h.at'.ap 0 10 g e y) (by decide)
    ·omega)
 ·rcases hi with rfl|rfl
  ·exact .inl hp
  ·rcases hg k hp with y|y
   ·exact .inl y
   ·exact .inr ⟨fun hf=>by have:=h.at'.lt hf;omega,Nat.le_trans h.k.size y⟩
 ·rcases hi with rfl|rfl<;>rcases hj with rfl|rfl
  ·rfl
  ·exact absurd ⟨0,h1⟩ hf
  ·exact absurd ⟨0,h2⟩ hf
  ·rfl
theorem Step.setLast(h:Step ws X0 M0 w X M)(x:Int):Step ws X0 M0 (w.setCell ⟨X.mb,7,none⟩ (.int .u64 x)) X {M with last:=x}:=
 h.trans (h.at'.upd 0 ((Kept.refl _ w).put (.inl rfl)) (fun j hj=>by rcases j with _|_|_|_|_|_|_|_|_|_|_|j<;>first|rfl|exact absurd rfl hj)
  (fun j hj hc=>by rcases j with _|_|_|_|_|_|_|_|_|_|_|j<;>first|exact hc|exact absurd rfl hj) (Has.dB (h.at'.c 0) rfl) (fun k hk=> .inl hk) rfl)
theorem Step.abh(h:Step ws X0 M0 w X M):Step ws X0 M0 (w.setCell ⟨X.mb,11,none⟩ (.slice none 0 0)) {X with oA:=none,oc:=0} {M with out:=[]}:=by
 have hk:Kept (fun k=>k=X.mb) w (w.setCell ⟨X.mb,11,none⟩ (.slice none 0 0)):=(Kept.refl _ w).put (.inl rfl)
 refine h.abg (fun i=>i=0\/i=10) (hk.mono fun k hk=>⟨0,.inl rfl,hk⟩) (fun j hj=> ?_) (fun j hj hc=> ?_) (fun i hi=> ?_) (fun i k hi hp=> ?_) (fun i j k hi hj h1 h2 hf=> ?_) rfl
 ·rcases j with _|_|_|_|_|_|_|_|_|_|_|j<;>first|rfl|exact absurd (Or.inl rfl) hj|exact absurd (Or.inr rfl) hj
 ·rcases j with _|_|_|_|_|_|_|_|_|_|_|j<;>first|exact hc|exact absurd (Or.inl rfl) hj|exact absurd (Or.inr rfl) hj
 ·rcases hi with rfl|rfl
  ·exact Has.dB (h.at'.c 0) rfl
  ·exact⟨rfl,.inl ⟨rfl,rfl⟩⟩
 ·rcases hi with rfl|rfl
  ·exact .inl hp
  ·simp[parts,Value.ownBlock]at hp
 ·rcases hi with rfl|rfl<;>rcases hj with rfl|rfl
  ·rfl
  ·simp[parts,Value.ownBlock]at h2
  ·simp[parts,Value.ownBlock]at h1
  ·rfl
end
section
variable{w w':World}{X:MX}{M:MR}
theorem dD.OY(h:dD w X M){n:Nat}{f:Int->Option Int}(hw:eF .u64 23 w' X.mm n f)(hn:M.cnt<=n)(hk:Kept (fun k=>k=X.mm) w w'):Step w X M w' X {M with marks:=f,cnt:=n}:=
 h.upd 5 hk (fun j hj=>by rcases j with _|_|_|_|_|_|_|_|_|_|_|j<;>first|rfl|exact absurd rfl hj)
  (fun j hj hc=>by rcases j with _|_|_|_|_|_|_|_|_|_|_|j<;>first|exact hc|exact absurd rfl hj|exact eF.mono hc hn|exact bM.mono hc hn) hw (fun k hk=> .inl hk) rfl
theorem dD.Lp(h:dD w X M){n:Nat}{f:Int->Option Int}(hw:eF .i64 3 w' X.se n f)(hn:M.cnt<=n)(hk:Kept (fun k=>k=X.se) w w'):Step w X M w' X {M with iE:=f,cnt:=n}:=
 h.upd 6 hk (fun j hj=>by rcases j with _|_|_|_|_|_|_|_|_|_|_|j<;>first|rfl|exact absurd rfl hj)
  (fun j hj hc=>by rcases j with _|_|_|_|_|_|_|_|_|_|_|j<;>first|exact hc|exact absurd rfl hj|exact eF.mono hc hn|exact bM.mono hc hn) hw (fun k hk=> .inl hk) rfl
theorem dD.OZ(h:dD w X M){n:Nat}{f:Int->Bool}(hw:bM w' X.jo n f)(hn:M.cnt<=n)(hk:Kept (fun k=>k=X.jo) w w'):Step w X M w' X {M with joins:=f,cnt:=n}:=
 h.upd 7 hk (fun j hj=>by rcases j with _|_|_|_|_|_|_|_|_|_|_|j<;>first|rfl|exact absurd rfl hj)
  (fun j hj hc=>by rcases j with _|_|_|_|_|_|_|_|_|_|_|j<;>first|exact hc|exact absurd rfl hj|exact eF.mono hc hn|exact bM.mono hc hn) hw (fun k hk=> .inl hk) rfl
theorem dD.Lr(h:dD w X M){n:Nat}{f:Int->Bool}(hw:bM w' X.le n f)(hn:M.cnt<=n)(hk:Kept (fun k=>k=X.le) w w'):Step w X M w' X {M with leaves:=f,cnt:=n}:=
 h.upd 8 hk (fun j hj=>by rcases j with _|_|_|_|_|_|_|_|_|_|_|j<;>first|rfl|exact absurd rfl hj)
  (fun j hj hc=>by rcases j with _|_|_|_|_|_|_|_|_|_|_|j<;>first|exact hc|exact absurd rfl hj|exact eF.mono hc hn|exact bM.mono hc hn) hw (fun k hk=> .inl hk) rfl
theorem dD.Tc(h:dD w X M){n:Nat}{f:Int->Bool}(hw:bM w' X.lo n f)(hn:M.cnt<=n)(hk:Kept (fun k=>k=X.lo) w w'):Step w X M w' X {M with lost:=f,cnt:=n}:=
 h.upd 9 hk (fun j hj=>by rcases j with _|_|_|_|_|_|_|_|_|_|_|j<;>first|rfl|exact absurd rfl hj)
  (fun j hj hc=>by rcases j with _|_|_|_|_|_|_|_|_|_|_|j<;>first|exact hc|exact absurd rfl hj|exact eF.mono hc hn|exact bM.mono hc hn) hw (fun k hk=> .inl hk) rfl
theorem dD.setSt(h:dD w X M){uf:Nat->Prop}{s':bQ}(hst:eH w' X.sb uf s')(hg:ji w X.FS uf)(hk:Kept X.FS w w'):Step w X M w' {X with FS:=uf} {M with st:=s'}:=
 h.upd 2 hk (fun j hj=>by rcases j with _|_|_|_|_|_|_|_|_|_|_|j<;>first|rfl|exact absurd rfl hj)
  (fun j hj hc=>by rcases j with _|_|_|_|_|_|_|_|_|_|_|j<;>first|exact hc|exact absurd rfl hj) hst (fun k hk=>hg k hk) rfl
theorem dD.O1(h:dD w X M){ns:List Int}{t:Int}(hw:Ac w' X.wb ns t)(hk:Kept (fun k=>k=X.wb) w w'):Step w X M w' X {M with ns:=ns,tk:=t}:=
 h.upd 4 hk (fun j hj=>by rcases j with _|_|_|_|_|_|_|_|_|_|_|j<;>first|rfl|exact absurd rfl hj)
  (fun j hj hc=>by rcases j with _|_|_|_|_|_|_|_|_|_|_|j<;>first|exact hc|exact absurd rfl hj) hw (fun k hk=> .inl hk) rfl
end
end dH
namespace Pt
open aH Fr Vn Ops Wl
theorem Rj(w:World)(A:Option Addr)(c:Nat)(fl:List Int)(ho:w.ownsRow 0 3 1 (.slice A fl.length c) fl.length (fl.map (Value.int .i64))):
  Calls Tryz.prog 73 #[.slice A fl.length c] w fun e w'=>e=.returned (.tuple #[])/\Src w' 1 A fl.length (fl.reverse.map (Value.int .i64))/\Kept (fun k=>(Value.slice A fl.length c).ownBlock=some k) w w':=by
 rcases Nat.eq_zero_or_pos fl.length with h0|hpos
 ·obtain rfl:fl=[]:=List.eq_nil_of_length_eq_zero h0
  refine(Rv.reverse_empty A c w).mono ?_
  rintro e w' ⟨rfl,rfl⟩
  exact⟨rfl,Src.nil _ _ _,Kept.refl _ _⟩
 ·obtain⟨b,cap,hv,_,hlt⟩:=ho.form hpos
  injection hv with hA _ hc
  subst hA hc
  have hcap:=fV ho
  unfold maxLen at hcap
  have hcell:=ho.cells (g:=b) rfl
  have hc:∀j,j<fl.length->w.cell? ⟨b,0+j,none⟩=some (.int .i64 (fl.getD j 0)):=by
   intro j hj
   have h1:=hcell j (.int .i64 (fl.getD j 0)) (by rw[List.getElem?_map,List.getElem?_eq_getElem hj];simp[hj])
   have e:((⟨b,0,none⟩:Addr).add j)=⟨b,0+j,none⟩:=by unfold Addr.add;split<;>simp_all
   rw[<-e];exact h1
  have hf:∀j,j<fl.length->w.frozen? ⟨b,0+j,none⟩=false:=by
   intro j hj
   obtain⟨cs,hh⟩:=Fr.jC ho (k:=b) rfl
   exact hh.frozen _
  refine(Rv.MN b 0 fl.length c fl w (Nat.le_refl _) (by omega) hc hf).mono ?_
  rintro e w' ⟨rfl,q,rfl⟩
  have hlen:((fl.take fl.length).reverse.map (Value.int .i64)).length=fl.length:=by simp
  have hks:Kept (fun k=>some b=some k) w ((w.drewN q).setCells b 0 ((fl.take fl.length).reverse.map (Value.int .i64))):=((Kept.refl _ w).drewN q).then (Kept.setCells _ _ _)
  refine⟨rfl,⟨by simp,fun _=>⟨_,rfl,Nat.lt_of_lt_of_le hlt hks.size,fun j u hu=> ?_⟩⟩,hks⟩
  have hj:j<fl.length:=by
   have:=(List.getElem?_eq_some_iff.1 hu).1
   simpa using this
  have h1:=World.cell?_setCells_in b ((fl.take fl.length).reverse.map (Value.int .i64)) 0 (w.drewN q) (fun i hi=>by
   rw[hlen]at hi
   show(w.cell? ⟨b,0+i,none⟩).isSome=true
   rw[hc i hi];rfl) j (by rw[hlen];exact hj)
  have e:((⟨b,0,none⟩:Addr).add j)=⟨b,0+j,none⟩:=by unfold Addr.add;split<;>simp_all
  rw[e,h1]
  have h2:=hu
  rw[List.getElem?_eq_getElem (by simp;exact hj)]at h2
  injection h2 with h2
  rw[<-h2]
  simp
end Pt
namespace Pt
open aH Fr Vn Ops Wl
def dat(m:aH.Safe)(x:Int):List UInt8:=bl (dataOf m [] x)
def MU(m:aH.Safe)(x:Int)(K:Nat):Prop:=(∀j:Nat,j<K->bW m [] (x+1+j)=true/\tY (dat m (x+1+j))=none)/\(bW m [] (x+1+K)=false\/∃c,tY (dat m (x+1+K))=some c)
def txt(m:aH.Safe)(x:Int)(K:Nat):List (List UInt8):=iR (fun j:Nat=>dat m (x+j)) (K+1)
def Passed(m:aH.Safe)(x:Int):Prop:=tY (dat m x)=none\/∃c K,tY (dat m x)=some c/\MU m x K/\K<=100000/\¬c<=(txt m x K).length
def Ls(w:World)(g:Nat)(F:Nat->Prop)(n:Nat)(m:aH.Safe)(aU aK f:Int)(K:Nat)(R:St)(e:Ending)(w':World):Prop:=
 ∃gp gw A c,e=.returned (.tuple #[.pointer (some ⟨gp,0,none⟩),.int .i64 0])/\Ey w' gp (.pointer (some ⟨gw,0,none⟩)) g f (.slice A (txt m f K).length c)/\Dx w' gw g (f+lastOf R)/\aX w' g F n (rP f (f+1+K) m) [] aU aK/\
  aF 9 1 w.heap.size w' A (txt m f K).length c (bZ (txt m f K))/\w.heap.size<=gp/\w.heap.size<=gw/\Kept F w w'
section
variable{F:Nat->Prop}{w:World}{g n:Nat}{m:aH.Safe}{aU aK:Int}
theorem Yl(h:aX w g F n m [] aU aK)(hn:n<=100000)(a:Int)(N i0 K want:Nat)(R:St)(acK:∀x,bW m [] x=decide (a<=x/\x<a+N))(ha:1<=a)(haN:a+N<=1073741824)(hi0:i0<N)
  (hsz:∀x,(dN m x).size<=100000) (acL:∀i:Nat,i0<i->i<N->Passed m (a+i)) (ae4:tY (dat m (a+i0))=some want) (hend:MU m (a+i0) K) (hK:K<=100000) (hw:want<=(txt m (a+i0) K).length)
  (Ag:Log (a+i0) R [] (rP (a+i0) (a+i0+1+K) m) []) (hR:R.length<=100000):
  Calls Tryz.prog 35 #[.pointer (some ⟨g,0,none⟩)] w (Ls w g F n m aU aK (a+i0) K R):=by
 have hds:∀x,(dataOf m [] x).size<=1000000:=fun x=>by have h1:=KU (m:=m) (ps:=[]) x;have h2:=hsz x;have:total []=0:=rfl;omega
 have hs2:∀x,(dN m x).size+total []<=1000000000:=fun x=>by have h2:=hsz x;have:total []=0:=rfl;omega
 have hpi:∀p∈([]:List aH.Pc),I64 p.1:=fun p hp=>by cases hp
 have hfi:=pX h hpi hn (by decide)
 have hbe:=fun(x:Int) (hx:0<=x/\x<=2305843009213693952) (W:World) (hW:Kept aj w W)=>CU (h.kept hW (fun _ _ z=>z)) x (fZ hx.1 (by omega)) (by decide) (by have:=hds x;omega) (by have:=hs2 x;omega)
 have hrd:=fun(x:Int) (K c:Nat) (hx:0<=x/\x<=1073741824) (hK:K<=100000) (hb:tY (dat m x)=some c) (he:MU m x K) (W:World) (hW:Kept aj w W)=>X8 (h.kept hW (fun _ _ z=>z)) x K c hpi hn (by decide) hds hs2 hx.1 (by omega) hK hb he.1 he.2
 have hen:=fun(W:World) (hW:Kept aj w W)=>Bi (h.kept hW (fun _ _ z=>z)) (a+i0) K hpi hn (by decide) hs2 (by omega) (by omega) hend.1 hend.2
 obtain⟨mK,hmK⟩:∃mK,rP (a+i0) (a+i0+1+K) m=mK:=⟨_,rfl⟩
 have hkp:=fun(W W':World) (gp:Nat) (v0 v3:Value) (hW:Kept aj w W) (hp:Ey W gp v0 g (a+i0) v3)=>keep_any v0 v3 hp (h.kept hW (fun _ _ z=>z)) hn (a+i0) (a+i0+1+K)
 rw[hmK]at hkp Ag
 have hfit:Fits n mK []:=⟨hn,by decide,fun f=>by
  rw[<-hmK]
  have h2:=hsz f
  unfold dN rP at*
  split
  ·exact h2
  ·exact Nat.zero_le _,fun p hp=>by cases hp⟩
 have hop:=fun(W:World) (F':Nat->Prop) (hW:aX W g F' n mK [] aU aK)=>KT hW Ag hfit (by omega) (by omega) hR
 have pY:=ah hfi;have yN:=ah hbe;have Td:=ah hrd;have HEN:=ah hen;have Lm:=ah hkp;have KH:=ah hop;have HMK:=ah hmK
 have agm:=ah acK;have agn:=ah acL;have ae5:=ah ae4;have jv:=ah hend;have HW:=ah hw;have uY:=ah h.lt;have HD:=ah h
 clear hfi hbe hrd hen hkp hop hmK acK acL ae4 hend hw h hds hs2 hpi hsz Ag hfit
 go_enter Tryz.func35,Tryz.ntmps35
 go_wp2_with fail
 refine pY.out.mono ?_
 rintro e w1 ⟨fl,A,c,rfl,hfa,hown,hnew,hk1⟩
 have hfl:=IW hfa agm.out (by omega) (by omega)
 have hrv:=Rj w1 A c fl hown
 have HRV:=ah hrv;have fF:=ah hk1;have fH:=ah hnew;have oM:=ah hfl
 clear hfa hown hnew hk1 hfl hrv
 go_wp2_with fail
 refine HRV.out.mono ?_
 rintro e w2 ⟨rfl,hs2,hk2⟩
 have hlen:fl.length=N:=by rw[oM.out];simp[nums]
 rw[hlen]at hs2⊢
 have ae6:Kept aj w w2:=fF.out.trans hk2 (fun k hk=> .inr (fH.out k hk))
 have hget:∀i:Nat,i<N->fl.reverse[i]? =some (a+(N-1-i:Nat)):=by
  intro i hi
  rw[List.getElem?_reverse (by omega),oM.out]
  unfold nums
  rw[List.getElem?_map,List.length_map,List.length_range,List.getElem?_range (by omega)]
  rfl
 have HS2:=ah hs2;have aW:=ah ae6;have abj:=ah hget
 clear hs2 hk2 ae6 hget hlen
 go_wp2_with fail
 go_loopw [20] (fun v20 wr=>∃i:Nat,i+i0+1<=N/\v20=.int .i64 i/\Kept aj w2 wr) (fun v20 _=>N-(intOf v20).toNat)
 case atStart=>exact⟨0,by omega,rfl,Kept.refl _ _⟩
 case round=>
  obtain⟨i,hi,rfl,hk⟩:=hrel
  obtain⟨x,hx⟩:∃x:Int,x=a+(N-1-i:Nat):=⟨_,rfl⟩
  have hgx:=abj.out i (by omega)
  rw[<-hx]at hgx
  obtain⟨ad,rfl,-,e0⟩:=yP.uK (HS2.out.kept hk (fun _ _ z=>z)) (by omega) i x hgx
  have hx1:0<=x:=by omega
  have hx2:x<=1073741824:=by omega
  have hil:i<N:=by omega
  have hkw:Kept aj w wr:=aW.out.then hk
  have hbx:=yN.out x ⟨hx1,by omega⟩ wr hkw
  have HK:=ah hk;have nJ:=ah hkw;have HX:=ah hx
  clear hk hgx hkw hx
  by_cases hfound:i+i0+1=N
  ·have KX:x=a+i0:=by have:=HX.out;omega
   subst KX
   have hbx2:Calls Tryz.prog 74 #[.pointer (some ⟨g,0,none⟩),.int .i64 (a+i0)] wr fun e w'=>e=.returned (.tuple #[.int .i64 want,.bool true])/\Kept aj wr w':=by
    have hb2:=ae5.out
    unfold dat at hb2
    rw[hb2]at hbx
    exact hbx
   have hrd:=Td.out (a+i0) K want ⟨hx1,hx2⟩ hK ae5.out jv.out
   have Dy:=ah hbx2;have Ym:=ah hrd
   obtain⟨L,hL⟩:∃L,txt m (a+i0) K=L:=⟨_,rfl⟩
   have hnb:decide (want<=L.length)=true:=by rw[<-hL];exact decide_eq_true HW.out
   have hL2:iR (fun j:Nat=>bl (dataOf m [] (a+i0+j))) (K+1)=L:=hL
   rw[hL2]at Ym
   have HL:=ah hL
   clear hbx hbx2 hrd hL hL2
   go_wp2_with fail
   refine Dy.out.mono ?_
   rintro e w3 ⟨rfl,hk3⟩
   have bn:=ah (nJ.out.then hk3)
   have hrx:=Ym.out w3 bn.out
   have abk:=ah hrx
   clear hk3 hrx
   go_wp2_with fail
   refine abk.out.mono ?_
   rintro e w4 ⟨A4,c4,rfl,hn4,hk4⟩
   rw[hnb]
   obtain⟨w5,hw5⟩:∃w5,w4.alloc (.cells #[.pointer none,.pointer (some ⟨g,0,none⟩),.int .i64 (a+i0),.slice A4 L.length c4] 110)=w5:=⟨_,rfl⟩
   have hk5:Kept aj w w5:=by rw[<-hw5];exact(bn.out.then hk4).alloc _
   have Yn:Ey w5 w4.heap.size (.pointer none) g (a+i0) (.slice A4 L.length c4):=by rw[<-hw5];exact Has.new _ _ _
   have jO:aF 9 1 w3.heap.size w5 A4 L.length c4 (bZ L):=by rw[<-hw5];exact hn4.kept ((Kept.refl _ _).alloc _)
   have ae7:=HEN.out w5 hk5
   have dS:=ah hw5;have cO:=ah hk5;have IU:=ah Yn;have uo:=ah jO;have agZ:=ah ae7;have qW:=ah (bn.out.then hk4).size;have jZ:=ah bn.out.size
   clear hw5 hk5 Yn jO ae7 hk4 hn4 hnb
   go_wp2_with fail
   rw[dS.out]
   refine agZ.out.mono ?_
   rintro e w6 ⟨rfl,hk6⟩
   have yR:=IU.out.kept hk6 (fun z=>z)
   have ae8:=Lm.out w6 w6 w4.heap.size _ _ (cO.out.then hk6) yR
   have ag0:=ah ae8;have IV:=ah yR;have jY:=ah (cO.out.then hk6);have xN:=ah (uo.out.kept hk6)
   clear hk6 yR ae8
   go_wp2_with fail
   refine ag0.out.mono ?_
   rintro e w7 ⟨rfl,hd7,lN⟩
   have hgF:¬F w4.heap.size:=fun hh=>by have h1:=uY.out _ hh;have h2:=qW.out;omega
   have Yi:=IV.out.kept lN hgF
   have Yo:aF 9 1 w3.heap.size w7 A4 L.length c4 (bZ L):=⟨aC xN.out.1 lN (fun k hk hh=>by have h1:=uY.out _ hh;have h2:=xN.out.2 k hk;have h3:=jZ.out;omega),xN.out.2⟩
   have ae9:=KH.out w7 F hd7
   have HD7:=ah hd7;have HP7:=ah Yi;have Tf:=ah Yo;have yE:=ah ((jY.out.mono (fun _ z=>z.elim)).then lN);have ag1:=ah ae9
   clear hd7 lN hgF Yi Yo ae9
   go_wp2_with fail
   refine ag1.out.mono ?_
   rintro e w8 ⟨gw,A8,c8,rfl,hw8,ae',-,hb8⟩
   have hk8:Kept aj w7 w8:=Kept.of_below hb8 (fun k hk _=>hk)
   have hp8:=HP7.out.kept hk8 (fun z=>z)
   have x0:w8.cell? ⟨w4.heap.size,0,none⟩=some (.pointer none):=hp8.cell 0
   have f0:=hp8.frozen 0
   have hfin:Ls w g F n m aU aK (a+i0) K R (.returned (.tuple #[.pointer (some ⟨w4.heap.size,0,none⟩),.int .i64 0])) (w8.setCell ⟨w4.heap.size,0,none⟩ (.pointer (some ⟨gw,0,none⟩))):=by
    have hks:Kept (fun k=>k=w4.heap.size) w8 (w8.setCell ⟨w4.heap.size,0,none⟩ (.pointer (some ⟨gw,0,none⟩))):=(Kept.refl _ w8).put (.inl rfl)
    have hS4:=qW.out
    have hS7:=yE.out.size
    refine⟨w4.heap.size,gw,A4,c4,rfl,?_,?_,?_,?_,hS4,Nat.le_trans hS7 ae',?_⟩
    ·rw[HL.out];exact hp8.put 0 (.pointer (some ⟨gw,0,none⟩))
    ·exact hw8.kept hks (fun e=>by have:=HP7.out.lt;omega)
    ·rw[HMK.out]
     exact(HD7.out.kept hk8 (fun _ _ z=>z)).kept hks (fun k hk e=>by have h1:=uY.out _ hk;omega)
    ·rw[HL.out]
     refine⟨aC (aC Tf.out.1 hk8 (fun _ _ z=>z)) hks (fun k hk e=> ?_),fun k hk=>Nat.le_trans jZ.out (Tf.out.2 k hk)⟩
     obtain⟨cs,hh⟩:=Fr.jC Tf.out.1 hk
     subst e
     exact Has.ne hh HP7.out (by decide) rfl
    ·exact(yE.out.then (hk8.mono (fun _ z=>z.elim))).trans hks (fun k hk=> .inr (by omega))
   have bP:=ah hfin
   clear hw8 ae' hb8 hk8 hp8 hfin
   go_wp2
   go_ret2
   exact bP.out
  ·have hps:=agn.out (N-1-i) (by omega) (by omega)
   rw[<-HX.out]at hps
   rcases hps with hno|⟨cx,Kx,hb,he,hKx,hnot⟩
   ·have hbx2:Calls Tryz.prog 74 #[.pointer (some ⟨g,0,none⟩),.int .i64 x] wr fun e w'=>e=.returned (.tuple #[.int .i64 0,.bool false])/\Kept aj wr w':=by
     unfold dat at hno
     rw[hno]at hbx
     exact hbx
    have Dy:=ah hbx2
    clear hbx hno hbx2
    go_wp2_with fail
    refine Dy.out.mono ?_
    rintro e w3 ⟨rfl,hk3⟩
    have bn:=ah (HK.out.then hk3)
    clear hk3
    go_wp2
    go_roundw
    case rel=>exact⟨i+1,by omega,by go_num,bn.out⟩
    case measure=>simp[intOf];omega
   ·have hbx2:Calls Tryz.prog 74 #[.pointer (some ⟨g,0,none⟩),.int .i64 x] wr fun e w'=>e=.returned (.tuple #[.int .i64 cx,.bool true])/\Kept aj wr w':=by
     have hb2:=hb
     unfold dat at hb2
     rw[hb2]at hbx
     exact hbx
    have hrd:=Td.out x Kx cx ⟨hx1,hx2⟩ hKx hb he
    have Dy:=ah hbx2;have Ym:=ah hrd
    obtain⟨Lx,hLx⟩:∃Lx,iR (fun j:Nat=>bl (dataOf m [] (x+j))) (Kx+1)=Lx:=⟨_,rfl⟩
    have hnb:decide (cx<=Lx.length)=false:=by rw[<-hLx];exact decide_eq_false hnot
    rw[hLx]at Ym
    clear hbx hb hbx2 hrd he hnot hLx
    go_wp2_with fail
    refine Dy.out.mono ?_
    rintro e w3 ⟨rfl,hk3⟩
    have bn:=ah (HK.out.then hk3)
    have hrx:=Ym.out w3 (nJ.out.then hk3)
    have abk:=ah hrx
    clear hk3 hrx
    go_wp2_with fail
    refine abk.out.mono ?_
    rintro e w4 ⟨A4,c4,rfl,-,hk4⟩
    rw[hnb]
    have dW:=ah (bn.out.then hk4)
    clear hk4 hnb
    go_wp2
    go_roundw
    case rel=>exact⟨i+1,by omega,by go_num,dW.out⟩
    case measure=>simp[intOf];omega
end
end Pt
namespace Pt
open aH Fr Vn Ops Wl
def Hd:St->Prop
 |[]=>False
 |[f]=>f.ts≠[]
 |_::g::R=>Hd (g::R)
theorem Hd.cons{f:oN}{R:St}(h:Hd R):Hd (f::R):=by
 cases R with
 |nil=>exact h.elim
 |cons g R=>exact h
theorem O4{R:St}(h:R=[]\/Hd R)(t:List UInt8):Hd (app R t):=by
 cases R with
 |nil=>show([t]:List (List UInt8))≠[];simp
 |cons f R=>
  have h:Hd (f::R):=by rcases h with h|h;cases h;exact h
  by_cases hf:full f
  ·rw[GN hf];exact h.cons
  ·rw[JO hf]
   cases R with
   |nil=>show f.ts++[t]≠[];simp
   |cons g R=>exact h
theorem adC{R:St}(h:Hd R)(q:List UInt8):Hd (tail R q):=by
 cases R with
 |nil=>exact h.elim
 |cons f R=>
  by_cases hf:full f
  ·rw[Et hf];exact h.cons
  ·rw[GR hf]
   cases R with
   |nil=>exact h
   |cons g R=>exact h
theorem O5:∀{T:List (List UInt8)} {R:St},Hd R->Hd (cur R T)
 |[],_,h=>h
 |t::T,R,h=>by rw[CJ];exact O5 (O4 (.inr h) t)
theorem Yp(t:List UInt8)(T:List (List UInt8)):Hd (cur [] (t::T)):=by rw[CJ];exact O5 (O4 (.inl rfl) t)
theorem Hd.texts:∀{R:St},Hd R->Wl.texts R≠[]
 |[],h=>h.elim
 |[f],h=>by
  have h2:f.ts≠[]:=h
  show []++f.ts≠[]
  simpa using h2
 |f::g::R,h=>by
  have:=Hd.texts (R:=g::R) h
  show Wl.texts (g::R)++f.ts≠[]
  simp[this]
theorem CV{first:Int}:∀(ps:List aH.Pc) {R:St} {m:aH.Safe} {T:List (List UInt8)} (left:Nat),Bh first R m->Ok R->Hd R->(∀t∈T,t.length<=65536)->ps.filter (mine first)=jc first R T->
  ∃R' j,Bh first R' (qE m left ps)/\Ok R'/\Hd R'/\texts R'=texts R++T.take j/\R'.length<=R.length+T.length
 |[],R,m,T,left,h,ho,hh,hT,hp=>⟨R,0,h,ho,hh,by simp,by omega⟩
 |p::ps,R,m,T,left,h,ho,hh,hT,hp=>by
  unfold qE
  by_cases hx:first<=p.1
  ·rw[List.filter_cons_of_pos (by simpa [mine]using hx)]at hp
   cases T with
   |nil=>cases hp
   |cons t T=>
    injection hp with h1 h2
    subst h1
    have ht:=hT t (by simp)
    by_cases hl:left<(bG (bI t)).size
    ·rw[if_pos hl]
     by_cases h0:left=0
     ·rw[if_pos h0]
      exact⟨R,0,h,ho,hh,by simp,by omega⟩
     ·rw[if_neg h0]
      dsimp only
      rw[Rf]
      rw[lQ]at hl
      have hg:=XN R ((bI t).take left)
      exact⟨tail R ((bI t).take left),0,aaW h _,adx ho ht (List.take_prefix _ _) (by rw[List.length_take];omega),adC hh _,by rw[UC];simp,by simp;omega⟩
    ·rw[if_neg hl]
     obtain⟨R',j,a,b,e,c,d⟩:=CV ps (T:=T) (left-(bG (bI t)).size) (SG h t) (XM ho ht) (O4 (.inr hh) t) (fun x hx=>hT x (by simp[hx])) h2
     have hg:=GU R t
     exact⟨R',j+1,a,b,e,by rw[c,KR];simp,by simp;omega⟩
  ·rw[List.filter_cons_of_neg (by simpa [mine]using hx)]at hp
   by_cases hl:left<p.2.size
   ·rw[if_pos hl]
    by_cases h0:left=0
    ·rw[if_pos h0]
     exact⟨R,0,h,ho,hh,by simp,by omega⟩
    ·rw[if_neg h0]
     exact⟨R,0,JQ h (by omega) _,ho,hh,by simp,by omega⟩
   ·rw[if_neg hl]
    exact CV ps (left-p.2.size) (JQ h (by omega) _) ho hh hT hp
def uN:St->Nat->List (List UInt8)
 |[],_=>[]
 |f::R,i=>if i=R.length then f.ts else uN R i
theorem MV{R:St}(h:Ok R){i:Nat}(hi:i<R.length):dh (aV (lF R i))=uN R i/\tY (lF R i)=match uN R i with|t::_=>vN t|[]=>none:=by
 induction R with
 |nil=>simp at hi
 |cons f R ih=>
  simp only[lF,uN]
  by_cases e:i=R.length
  ·rw[if_pos e,if_pos e]
   have ho:=h f (by simp)
   refine⟨(JR ho).1,?_⟩
   unfold tY pO
   obtain⟨t',h1,h2,h3⟩:=ho.q
   rcases hts:f.ts with _|⟨t,ts⟩
   ·have:=Ej [] f.q t' h1 h2 h3
    simp only[List.nil_append,List.length_nil]at this
    rw[show dP []++f.q=f.q by simp[dP],this]
   ·have ht:t.length<=65536:=ho.ts t (by rw[hts];simp)
    have:=Cc [] t (dP ts++f.q) ht
    simp only[List.nil_append,List.length_nil,Nat.zero_add]at this
    rw[show dP (t::ts)++f.q=bI t++(dP ts++f.q) by simp[dP],this]
  ·rw[if_neg e,if_neg e]
   exact ih (fun g hg=>h g (List.mem_cons_of_mem _ hg)) (by simp at hi;omega)
theorem IX:∀{R:St} {p:List UInt8} {rest:List (List UInt8)},Hd R->texts R=p::rest->(∀i,1<=i->∀t∈uN R i,t∈rest)/\∃r0,uN R 0=p::r0
 |[],_,_,h,_=>h.elim
 |[f],p,rest,h,ht=>by
  have ht':f.ts=p::rest:=by simpa [texts]using ht
  refine⟨fun i hi t EC=> ?_,rest,by simp[uN,ht']⟩
  simp only[uN,List.length_nil]at EC
  rw[if_neg (by omega)]at EC
  cases EC
 |f::g::R,p,rest,h,ht=>by
  have h2:Hd (g::R):=h
  have hne:=h2.texts
  rcases htx:texts (g::R)with _|⟨p',ah6⟩
  ·exact absurd htx hne
  ·have ht2:texts (g::R)++f.ts=p::rest:=ht
   rw[htx]at ht2
   injection ht2 with e1 e2
   subst e1
   obtain⟨h3,r0,h4⟩:=IX h2 htx
   refine⟨fun i hi t EC=> ?_,r0,?_⟩
   ·unfold uN at EC
    split at EC
    ·rw[<-e2];exact List.mem_append_right _ EC
    ·rw[<-e2];exact List.mem_append_left _ (h3 i hi t EC)
   ·unfold uN
    rw[if_neg (by simp)]
    exact h4
theorem Lt{d d':Nat->List UInt8}:∀{k:Nat},(∀j,j<k->d j=d' j)->iR d k=iR d' k
 |0,_=>rfl
 |k+1,h=>by
  show iR d k++Bj d k=iR d' k++Bj d' k
  rw[Lt (fun j hj=>h j (by omega))]
  unfold Bj
  rw[h k (by omega)]
theorem Yq:∀{R:St},Ok R->Hd R->iR (lF R) R.length=tt ((texts R).drop 1)
 |[],_,h=>h.elim
 |[f],ho,h=>by
  show []++Bj _ 0=_
  unfold Bj
  rw[(MV ho (i:=0) (by simp)).1]
  simp[uN,texts]
 |f::g::R,ho,h=>by
  have h2:Hd (g::R):=h
  have ho2:Ok (g::R):=fun x hx=>ho x (List.mem_cons_of_mem _ hx)
  have ih:=Yq ho2 h2
  show iR (lF (f::g::R)) (g::R).length++Bj (lF (f::g::R)) (g::R).length=_
  rw[Lt (d':=lF (g::R)) (fun j hj=>by rw[lF,if_neg (by omega)]),ih]
  unfold Bj
  rw[(MV ho (i:=(g::R).length) (by simp)).1,if_neg (by simp)]
  have e1:uN (f::g::R) (g::R).length=f.ts:=by rw[uN,if_pos rfl]
  rw[e1,List.drop_zero]
  have hne:=h2.texts
  show _=tt ((texts (g::R)++f.ts).drop 1)
  rw[List.drop_append_of_le_length (by have:=List.length_pos_iff.2 hne;omega)]
  simp[tt]
theorem abl(l:List ByteArray):tt (l.map fun s=>84::bl s)=l.map bl:=by
 induction l with
 |nil=>rfl
 |cons s l ih=>
  show t1 (84::bl s)++tt (l.map fun s=>84::bl s)=_
  rw[ih]
  rfl
theorem adD{k:Nat}(hk:k<=1073741824):vN (80::put k)=some k:=by
 have h1:=get_put [80] [] k (by omega)
 simp only[List.append_nil,List.length_cons,List.length_nil]at h1
 unfold vN
 rw[show(80::put k:List UInt8)=[80]++put k from rfl,h1]
 split
 ·dsimp only
  rw[if_pos ⟨by simp;omega,hk⟩]
 ·rename_i h
  exact absurd rfl h
theorem abm(t:List UInt8):vN (84::t)=none:=by
 unfold vN
 rw[if_neg (by simp)]
theorem Yr(l:List ByteArray):bZ (l.map bl)=l.map Value.string:=by
 unfold bZ
 rw[List.map_map]
 exact List.map_congr_left (fun s _=>by simp[yh])
section
variable{first:Int}{R:St}{m:aH.Safe}{k:Nat}{l:List ByteArray}
theorem Log.dat(h:Log first R [] m [])(i:Nat):Pt.dat m (first+i)=lF R i:=by
 unfold Pt.dat
 rw[(h.file i).2,jd]
 rfl
theorem Log.isf(h:Log first R [] m [])(i:Nat):bW m [] (first+i)=decide (i<R.length):=(h.file i).1
theorem Hd.len{R:St}(h:Hd R):0<R.length:=by
 cases R with
 |nil=>exact h.elim
 |cons f R=>simp
theorem found(h:Log first R [] m [])(hd:Hd R)(ht:texts R=jT k l)(hk:k<=1073741824):
  (∀i:Nat,0<i->i<R.length->Passed m (first+i))/\tY (Pt.dat m (first+(0:Nat)))=some k/\MU m (first+(0:Nat)) (R.length-1)/\txt m (first+(0:Nat)) (R.length-1)=l.map bl:=by
 have hpos:=hd.len
 obtain⟨h1,r0,h2⟩:=IX hd (p:=80::put k) (rest:=l.map fun s=>84::bl s) ht
 have hno:∀i:Nat,0<i->i<R.length->tY (Pt.dat m (first+i))=none:=by
  intro i hi hl
  rw[Log.dat h,(MV h.ok hl).2]
  rcases hts:uN R i with _|⟨t,r⟩
  ·rfl
  ·have:=h1 i hi t (by rw[hts];simp)
   rw[List.mem_map]at this
   obtain⟨s,_,rfl⟩:=this
   exact abm _
 refine⟨fun i hi hl=> .inl (hno i hi hl),?_,⟨fun j hj=> ?_,.inl ?_⟩,?_⟩
 ·rw[Log.dat h,(MV h.ok hpos).2,h2]
  exact adD hk
 ·have e:first+((0:Nat):Int)+1+(j:Int)=first+((j+1:Nat):Int):=by omega
  rw[e]
  exact⟨by rw[Log.isf h];simp;omega,hno (j+1) (by omega) (by omega)⟩
 ·have e:first+((0:Nat):Int)+1+((R.length-1:Nat):Int)=first+(R.length:Int):=by omega
  rw[e,Log.isf h]
  simp
 ·unfold txt
  have e:(fun j:Nat=>Pt.dat m (first+((0:Nat):Int)+(j:Int)))=lF R:=by
   funext j
   rw[show first+((0:Nat):Int)+(j:Int)=first+(j:Int) by omega,Log.dat h]
  rw[e,show R.length-1+1=R.length by omega,Yq h.ok hd,ht]
  show tt (l.map fun s=>84::bl s)=_
  exact abl l
end
end Pt
namespace Pt
open aH Fr Vn Ops Wl
def total(fs:List oN):Nat:=(fs.map fun f=>(pO f).length).sum
structure Whole(fs:List oN):Prop where
 q:∀f∈fs,f.q=[]
 ts:∀f∈fs,f.ts≠[]
 ok:∀f∈fs,SC f
end Pt
namespace Pt
open aH Fr Vn Ops Wl
structure abn where
 k:Int
 s:ByteArray
 A:Option Addr
 c:Nat
 l:List ByteArray
 n:Int
instance:Inhabited abn:=⟨⟨0,⟨#[]⟩,none,0,[],0⟩⟩
end Pt
section
open Go.WideShapes Go.ChangeShapes
variable{H:Type}{enc:TypeId×Value->H}{W:World}{v:Value}{d:DataW H}{ps:List MemPlace}{r:Reach}{b0:Nat}
end
end Go.Proofs.YtfjdpbbgfjhnlaaGreat

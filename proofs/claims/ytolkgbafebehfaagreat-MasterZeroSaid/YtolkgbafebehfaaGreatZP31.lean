/- Part 32 of what the proof needs. -/
import Derived.Test.YtolkgbafebehfaaGreatZP10
import Derived.Test.YtolkgbafebehfaaGreatZP18
import Derived.Test.YtolkgbafebehfaaGreatZP21
import Derived.Test.YtolkgbafebehfaaGreatZP30
set_option linter.unusedSimpArgs false
set_option linter.unusedVariables false
set_option maxHeartbeats 32000000
set_option maxRecDepth 100000
namespace Go.Proofs.YtolkgbafebehfaaGreat
open Go.RowKit
set_option maxRecDepth 100000
namespace dM
open aP Vn Mst lJ IM
structure xY where
 to:Int
 body:ByteArray
deriving DecidableEq
def ab4(o:xY):List Value:=[.int .i64 o.to,.string o.body]
def rM(l:List xY):List Value:=l.flatMap ab4
structure nS where
 first:Int
 R:Wl.St
 T:List (List UInt8)
 l:List ByteArray
structure MR where
 lg:nS
 st:bV
 pins:List aZ
 ns:List Int
 tk:Int
 marks:Int->Option Int
 iP:Int->Option Int
 last:Int
 joins:Int->Bool
 leaves:Int->Bool
 lost:Int->Bool
 out:List xY
 cnt:Nat
structure MX where
 mb:Nat
 gp:Nat
 gw:Nat
 g:Nat
 sb:Nat
 wb:Nat
 mm:Nat
 se:Nat
 jo:Nat
 le:Nat
 lo:Nat
 F:Nat->Prop
 FS:Nat->Prop
 pA:Option Addr
 pc:Nat
 oA:Option Addr
 oc:Nat
 A:Option Addr
 c:Nat
 n:Nat
 m:aJ.Safe
 ps:List aJ.Pc
 aV:Int
 aO:Int
def MX.fix(X:MX):List Nat:=[X.mb,X.gp,X.g,X.sb,X.wb,X.mm,X.se,X.jo,X.le,X.lo]
def B6(X:MX)(M:MR):Array Value:=#[.pointer (some ⟨X.g,0,none⟩),.pointer (some ⟨X.gp,0,none⟩),.pointer (some ⟨X.sb,0,none⟩),.slice X.pA M.pins.length X.pc,.pointer (some ⟨X.wb,0,none⟩),.map (some X.mm),.map (some X.se),.int .u64 M.last,.map (some X.jo),.map (some X.le),.map (some X.lo),.slice X.oA M.out.length X.oc]
def parts(X:MX)(M:MR):Nat->Nat->Prop
 |0=>fun k=>k=X.mb
 |1=>Pt.PF X.gp X.gw X.F X.A M.lg.l.length X.c
 |2=>X.FS
 |3=>fun k=>(Value.slice X.pA M.pins.length X.pc).ownBlock=some k
 |4=>fun k=>k=X.wb
 |5=>fun k=>k=X.mm
 |6=>fun k=>k=X.se
 |7=>fun k=>k=X.jo
 |8=>fun k=>k=X.le
 |9=>fun k=>k=X.lo
 |10=>fun k=>(Value.slice X.oA M.out.length X.oc).ownBlock=some k
 |_=>fun _=>False
def rO(w:World)(X:MX)(L:nS):Prop:=Pt.nZ w 0 X.gp X.gw X.g X.F X.n X.m X.ps X.aV X.aO L.first L.R L.T X.A X.c L.l
def uS(X:MX)(M:MR)(w:World):Nat->Prop
 |0=>Has w X.mb 65 (B6 X M)
 |1=>rO w X M.lg
 |2=>dS w X.sb X.FS M.st
 |3=>w.ownsRow 0 79 3 (.slice X.pA M.pins.length X.pc) M.pins.length (aK M.pins)
 |4=>xR w X.wb M.ns M.tk
 |5=>dX .u64 23 w X.mm M.cnt M.marks
 |6=>dX .i64 3 w X.se M.cnt M.iP
 |7=>bJ w X.jo M.cnt M.joins
 |8=>bJ w X.le M.cnt M.leaves
 |9=>bJ w X.lo M.cnt M.lost
 |10=>w.ownsRow 0 143 2 (.slice X.oA M.out.length X.oc) M.out.length (rM M.out)
 |_=>True
theorem rO.YD{w w':World}{X:MX}{L:nS}{G:Nat->Prop}(h:rO w X L)(hk:Kept G w w')(hs:∀k,Pt.PF X.gp X.gw X.F X.A L.l.length X.c k->¬G k):rO w' X L:=
 ⟨h.d.kept hk (fun k hf=>hs k (.inl hf)),h.p.kept hk (hs _ (.inr (.inl rfl))),h.wl.kept hk (hs _ (.inr (.inr (.inl rfl)))),⟨aC h.row.1 hk (fun g hg=>hs g (.inr (.inr (.inr hg)))),h.row.2⟩,h.log,h.low,h.f1,h.tx,h.hs⟩
theorem uS.kept{X:MX}{M:MR}{w w':World}{G:Nat->Prop}{i:Nat}(h:uS X M w i)(hk:Kept G w w')(hs:∀k,parts X M i k->¬G k):uS X M w' i:=by
 rcases i with _|_|_|_|_|_|_|_|_|_|_|i
 ·exact Has.kept h hk (hs _ rfl)
 ·exact rO.YD h hk hs
 ·exact dS.kept h hk hs
 ·exact aC h hk hs
 ·exact Has.kept h hk (hs _ rfl)
 ·exact dX.kept h hk (hs _ rfl)
 ·exact dX.kept h hk (hs _ rfl)
 ·exact bJ.kept h hk (hs _ rfl)
 ·exact bJ.kept h hk (hs _ rfl)
 ·exact bJ.kept h hk (hs _ rfl)
 ·exact aC h hk hs
 ·trivial
theorem uS.lt{X:MX}{M:MR}{w:World}{i k:Nat}(h:uS X M w i)(hp:parts X M i k):k<w.heap.size:=by
 rcases i with _|_|_|_|_|_|_|_|_|_|_|i
 ·obtain rfl:k=X.mb:=hp
  exact Has.lt h
 ·have hh:rO w X M.lg:=h
  rcases hp with hp|hp|hp|hp
  ·exact hh.d.lt k hp
  ·rw[hp];exact Has.lt hh.p
  ·rw[hp];exact Has.lt hh.wl
  ·exact ou hh.row.1 hp
 ·exact dS.lt h k hp
 ·exact ou h hp
 ·obtain rfl:k=X.wb:=hp
  exact Has.lt h
 ·obtain rfl:k=X.mm:=hp
  exact dX.lt h
 ·obtain rfl:k=X.se:=hp
  exact dX.lt h
 ·obtain rfl:k=X.jo:=hp
  exact bJ.lt h
 ·obtain rfl:k=X.le:=hp
  exact bJ.lt h
 ·obtain rfl:k=X.lo:=hp
  exact bJ.lt h
 ·exact ou h hp
 ·exact hp.elim
structure dG(w:World)(X:MX)(M:MR):Prop where
 c:∀i,uS X M w i
 ap:∀i j k,parts X M i k->parts X M j k->i=j
def dU(X:MX)(M:MR)(k:Nat):Prop:=∃i,parts X M i k
theorem dG.lt{w:World}{X:MX}{M:MR}(h:dG w X M){k:Nat}(hk:dU X M k):k<w.heap.size:=by
 obtain⟨i,hi⟩:=hk
 exact(h.c i).lt hi
theorem dG.quiet{w w':World}{X:MX}{M:MR}(h:dG w X M)(hk:Kept aj w w'):dG w' X M:=⟨fun i=>(h.c i).kept hk (fun _ _ z=>z),h.ap⟩
structure Step(w:World)(X:MX)(M:MR)(w':World)(X':MX)(M':MR):Prop where
 at':dG w' X' M'
 g:∀k,dU X' M' k->dU X M k\/w.heap.size<=k
 k:Kept (dU X M) w w'
 fx:X'.fix=X.fix
theorem Step.mb{w w':World}{X X':MX}{M M':MR}(h:Step w X M w' X' M'):X'.mb=X.mb:=by have:=h.fx;simp only[MX.fix,List.cons.injEq]at this;exact this.1
theorem Step.sb{w w':World}{X X':MX}{M M':MR}(h:Step w X M w' X' M'):X'.sb=X.sb:=by have:=h.fx;simp only[MX.fix,List.cons.injEq]at this;exact this.2.2.2.1
theorem Step.gp{w w':World}{X X':MX}{M M':MR}(h:Step w X M w' X' M'):X'.gp=X.gp:=by have:=h.fx;simp only[MX.fix,List.cons.injEq]at this;exact this.2.1
theorem Step.dk{w w':World}{X X':MX}{M M':MR}(h:Step w X M w' X' M'):X'.g=X.g:=by have:=h.fx;simp only[MX.fix,List.cons.injEq]at this;exact this.2.2.1
theorem Step.refl{w w':World}{X:MX}{M:MR}(h:dG w X M)(hk:Kept aj w w'):Step w X M w' X M:=⟨h.quiet hk,fun _ h=> .inl h,Kept.up hk,rfl⟩
theorem Step.trans{w w1 w2:World}{X X1 X2:MX}{M M1 M2:MR}(h:Step w X M w1 X1 M1)(k:Step w1 X1 M1 w2 X2 M2):Step w X M w2 X2 M2:=
 ⟨k.at',fun i hi=>by
  rcases k.g i hi with y|y
  ·exact h.g i y
  ·have:=h.k.size;exact .inr (by omega),h.k.trans k.k h.g,k.fx.trans h.fx⟩
theorem Step.quiet{w w1 w2:World}{X X1:MX}{M M1:MR}(h:Step w X M w1 X1 M1)(hk:Kept aj w1 w2):Step w X M w2 X1 M1:=h.trans (Step.refl h.at' hk)
theorem dG.upd{w w':World}{X X':MX}{M M':MR}(h:dG w X M)(i:Nat)(hk:Kept (parts X M i) w w')(hsp:∀j,j≠i->parts X' M' j=parts X M j)(hsc:∀j,j≠i->uS X M w' j->uS X' M' w' j)
  (hc:uS X' M' w' i) (hg:∀k,parts X' M' i k->parts X M i k\/w.heap.size<=k) (hmb:X'.fix=X.fix):Step w X M w' X' M':=by
 have hap:∀j k,j≠i->parts X M j k->¬parts X M i k:=fun j k hj h1 h2=>hj (h.ap j i k h1 h2)
 refine⟨⟨fun j=> ?_,fun a b k ha hb=> ?_⟩,fun k hf=> ?_,hk.mono fun k hk=>⟨i,hk⟩,hmb⟩
 ·by_cases hj:j=i
  ·subst hj;exact hc
  ·exact hsc j hj ((h.c j).kept hk (fun k hp=>hap j k hj hp))
 ·by_cases h1:a=i
  ·by_cases h2:b=i
   ·rw[h1,h2]
   ·subst h1
    rw[hsp b h2]at hb
    rcases hg k ha with y|y
    ·exact h.ap a b k y hb
    ·have:=(h.c b).lt hb;omega
  ·by_cases h2:b=i
   ·subst h2
    rw[hsp a h1]at ha
    rcases hg k hb with y|y
    ·exact h.ap a b k ha y
    ·have:=(h.c a).lt ha;omega
   ·rw[hsp a h1]at ha
    rw[hsp b h2]at hb
    exact h.ap a b k ha hb
 ·obtain⟨j,hj⟩:=hf
  by_cases h1:j=i
  ·subst h1
   rcases hg k hj with y|y
   ·exact .inl ⟨j,y⟩
   ·exact .inr y
  ·rw[hsp j h1]at hj
   exact .inl ⟨j,hj⟩
theorem Step.Xb{ws w w':World}{X0 X X':MX}{M0 M M':MR}(h:Step ws X0 M0 w X M)(S:Nat->Prop)(hk:Kept (fun k=>∃i,S i/\parts X M i k) w w')(hsp:∀j,¬S j->parts X' M' j=parts X M j)(hsc:∀j,¬S j->uS X M w' j->uS X' M' w' j)
  (hc:∀i,S i->uS X' M' w' i) (hg:∀i k,S i->parts X' M' i k->parts X M i k\/(¬dU X M k/\ws.heap.size<=k)) (hfr:∀i j k,S i->S j->parts X' M' i k->parts X' M' j k->¬dU X M k->i=j) (hmb:X'.fix=X.fix):Step ws X0 M0 w' X' M':=by
 have ha:=h.at'
 refine⟨⟨fun j=> ?_,fun a b k h1 h2=> ?_⟩,fun k hf=> ?_,?_,hmb.trans h.fx⟩
 ·by_cases hj:S j
  ·exact hc j hj
  ·refine hsc j hj ((ha.c j).kept hk (fun k hp=> ?_))
   rintro⟨i,hi,hp2⟩
   obtain rfl:=ha.ap i j k hp2 hp
   exact hj hi
 ·by_cases s1:S a
  ·by_cases s2:S b
   ·rcases hg a k s1 h1 with y|⟨y,_⟩
    ·rcases hg b k s2 h2 with z|⟨z,_⟩
     ·exact ha.ap a b k y z
     ·exact absurd ⟨a,y⟩ z
    ·exact hfr a b k s1 s2 h1 h2 y
   ·rw[hsp b s2]at h2
    rcases hg a k s1 h1 with y|⟨y,_⟩
    ·exact ha.ap a b k y h2
    ·exact absurd ⟨b,h2⟩ y
  ·rw[hsp a s1]at h1
   by_cases s2:S b
   ·rcases hg b k s2 h2 with z|⟨z,_⟩
    ·exact ha.ap a b k h1 z
    ·exact absurd ⟨a,h1⟩ z
   ·rw[hsp b s2]at h2
    exact ha.ap a b k h1 h2
 ·obtain⟨j,hj⟩:=hf
  by_cases s1:S j
  ·rcases hg j k s1 hj with y|⟨_,y⟩
   ·exact h.g k ⟨j,y⟩
   ·exact .inr y
  ·rw[hsp j s1]at hj
   exact h.g k ⟨j,hj⟩
 ·exact h.k.trans hk (fun k hp=>by obtain⟨i,_,hp⟩:=hp;exact h.g k ⟨i,hp⟩)
section
variable{ws w w':World}{X X0:MX}{M M0:MR}
theorem Step.Cb(h:Step ws X0 M0 w X M){A:Option Addr}{c:Nat}{l:List aZ}(hr:w.ownsRow 0 79 3 (.slice A l.length c) l.length (aK l))(hnew:∀k,(Value.slice A l.length c).ownBlock=some k->ws.heap.size<=k/\¬dU X M k):
  Step ws X0 M0 (w.setCell ⟨X.mb,3,none⟩ (.slice A l.length c)) {X with pA:=A,pc:=c} {M with pins:=l}:=by
 have hk:Kept (fun k=>k=X.mb) w (w.setCell ⟨X.mb,3,none⟩ (.slice A l.length c)):=(Kept.refl _ w).put (.inl rfl)
 refine h.Xb (fun i=>i=0\/i=3) (hk.mono fun k hk=>⟨0,.inl rfl,hk⟩) (fun j hj=> ?_) (fun j hj hc=> ?_) (fun i hi=> ?_) (fun i k hi hp=> ?_) (fun i j k hi hj h1 h2 hf=> ?_) rfl
 ·rcases j with _|_|_|_|_|_|_|_|_|_|_|j<;>first|rfl|exact absurd (Or.inl rfl) hj|exact absurd (Or.inr rfl) hj
 ·rcases j with _|_|_|_|_|_|_|_|_|_|_|j<;>first|exact hc|exact absurd (Or.inl rfl) hj|exact absurd (Or.inr rfl) hj
 ·rcases hi with rfl|rfl
  ·exact Has.dB (h.at'.c 0) rfl
  ·exact aC hr hk (fun g hg e=>(hnew g hg).2 ⟨0,e⟩)
 ·rcases hi with rfl|rfl
  ·exact .inl hp
  ·exact .inr ⟨(hnew k hp).2,(hnew k hp).1⟩
 ·rcases hi with rfl|rfl<;>rcases hj with rfl|rfl
  ·rfl
  ·exact absurd ⟨0,h1⟩ hf
  ·exact absurd ⟨0,h2⟩ hf
  ·rfl
theorem Step.aa9(h:Step ws X0 M0 w X M){w9:World}{A:Option Addr}{c:Nat}{l:List xY}(hr:w9.ownsRow 0 143 2 (.slice A l.length c) l.length (rM l))(hk9:Kept (fun k=>(Value.slice X.oA M.out.length X.oc).ownBlock=some k) w w9)
  (hg:∀k,(Value.slice A l.length c).ownBlock=some k->(Value.slice X.oA M.out.length X.oc).ownBlock=some k\/w.heap.size<=k):
  Step ws X0 M0 (w9.setCell ⟨X.mb,11,none⟩ (.slice A l.length c)) {X with oA:=A,oc:=c} {M with out:=l}:=by
 have hk:Kept (fun k=>∃i,(i=0\/i=10)/\parts X M i k) w (w9.setCell ⟨X.mb,11,none⟩ (.slice A l.length c)):=Kept.put (hk9.mono fun k hk=>⟨10,.inr rfl,hk⟩) (.inl ⟨0,.inl rfl,rfl⟩)
 have hmb:X.mb<w.heap.size:=(h.at'.c 0).lt rfl
 refine h.Xb (fun i=>i=0\/i=10) hk (fun j hj=> ?_) (fun j hj hc=> ?_) (fun i hi=> ?_) (fun i k hi hp=> ?_) (fun i j k hi hj h1 h2 hf=> ?_) rfl
 ·rcases j with _|_|_|_|_|_|_|_|_|_|_|j<;>first|rfl|exact absurd (Or.inl rfl) hj|exact absurd (Or.inr rfl) hj
 ·rcases j with _|_|_|_|_|_|_|_|_|_|_|j<;>first|exact hc|exact absurd (Or.inl rfl) hj|exact absurd (Or.inr rfl) hj
 ·rcases hi with rfl|rfl
  ·exact Has.dB (Has.kept (h.at'.c 0) hk9 (fun e=>absurd (h.at'.ap 0 10 _ rfl e) (by decide))) rfl
  ·exact aC (F:=fun k=>k=X.mb) hr ((Kept.refl _ w9).put (.inl rfl)) (fun g hg2 e=>by
    rcases hg g hg2 with y|y
    ·exact absurd (h.at'.ap 0 10 g e y) (by decide)
    ·omega)
 ·rcases hi with rfl|rfl
  ·exact .inl hp
  ·rcases hg k hp with y|y
   ·exact .inl y
   ·exact .inr ⟨fun hf=>by have:=h.at'.lt hf;omega,Nat.le_trans h.k.size y⟩
 ·rcases hi with rfl|rfl<;>rcases hj with rfl|rfl
  ·rfl
  ·exact absurd ⟨0,h1⟩ hf
  ·exact absurd ⟨0,h2⟩ hf
  ·rfl
theorem Step.setLast(h:Step ws X0 M0 w X M)(x:Int):Step ws X0 M0 (w.setCell ⟨X.mb,7,none⟩ (.int .u64 x)) X {M with last:=x}:=
 h.trans (h.at'.upd 0 ((Kept.refl _ w).put (.inl rfl)) (fun j hj=>by rcases j with _|_|_|_|_|_|_|_|_|_|_|j<;>first|rfl|exact absurd rfl hj)
  (fun j hj hc=>by rcases j with _|_|_|_|_|_|_|_|_|_|_|j<;>first|exact hc|exact absurd rfl hj) (Has.dB (h.at'.c 0) rfl) (fun k hk=> .inl hk) rfl)
theorem Step.Xc(h:Step ws X0 M0 w X M):Step ws X0 M0 (w.setCell ⟨X.mb,11,none⟩ (.slice none 0 0)) {X with oA:=none,oc:=0} {M with out:=[]}:=by
 have hk:Kept (fun k=>k=X.mb) w (w.setCell ⟨X.mb,11,none⟩ (.slice none 0 0)):=(Kept.refl _ w).put (.inl rfl)
 refine h.Xb (fun i=>i=0\/i=10) (hk.mono fun k hk=>⟨0,.inl rfl,hk⟩) (fun j hj=> ?_) (fun j hj hc=> ?_) (fun i hi=> ?_) (fun i k hi hp=> ?_) (fun i j k hi hj h1 h2 hf=> ?_) rfl
 ·rcases j with _|_|_|_|_|_|_|_|_|_|_|j<;>first|rfl|exact absurd (Or.inl rfl) hj|exact absurd (Or.inr rfl) hj
 ·rcases j with _|_|_|_|_|_|_|_|_|_|_|j<;>first|exact hc|exact absurd (Or.inl rfl) hj|exact absurd (Or.inr rfl) hj
 ·rcases hi with rfl|rfl
  ·exact Has.dB (h.at'.c 0) rfl
  ·exact⟨rfl,.inl ⟨rfl,rfl⟩⟩
 ·rcases hi with rfl|rfl
  ·exact .inl hp
  ·simp[parts,Value.ownBlock]at hp
 ·rcases hi with rfl|rfl<;>rcases hj with rfl|rfl
  ·rfl
  ·simp[parts,Value.ownBlock]at h2
  ·simp[parts,Value.ownBlock]at h1
  ·rfl
end
section
variable{w w':World}{X:MX}{M:MR}
theorem dG.J8(h:dG w X M){n:Nat}{f:Int->Option Int}(hw:dX .u64 23 w' X.mm n f)(hn:M.cnt<=n)(hk:Kept (fun k=>k=X.mm) w w'):Step w X M w' X {M with marks:=f,cnt:=n}:=
 h.upd 5 hk (fun j hj=>by rcases j with _|_|_|_|_|_|_|_|_|_|_|j<;>first|rfl|exact absurd rfl hj)
  (fun j hj hc=>by rcases j with _|_|_|_|_|_|_|_|_|_|_|j<;>first|exact hc|exact absurd rfl hj|exact dX.mono hc hn|exact bJ.mono hc hn) hw (fun k hk=> .inl hk) rfl
theorem dG.TF(h:dG w X M){n:Nat}{f:Int->Option Int}(hw:dX .i64 3 w' X.se n f)(hn:M.cnt<=n)(hk:Kept (fun k=>k=X.se) w w'):Step w X M w' X {M with iP:=f,cnt:=n}:=
 h.upd 6 hk (fun j hj=>by rcases j with _|_|_|_|_|_|_|_|_|_|_|j<;>first|rfl|exact absurd rfl hj)
  (fun j hj hc=>by rcases j with _|_|_|_|_|_|_|_|_|_|_|j<;>first|exact hc|exact absurd rfl hj|exact dX.mono hc hn|exact bJ.mono hc hn) hw (fun k hk=> .inl hk) rfl
theorem dG.Xd(h:dG w X M){n:Nat}{f:Int->Bool}(hw:bJ w' X.jo n f)(hn:M.cnt<=n)(hk:Kept (fun k=>k=X.jo) w w'):Step w X M w' X {M with joins:=f,cnt:=n}:=
 h.upd 7 hk (fun j hj=>by rcases j with _|_|_|_|_|_|_|_|_|_|_|j<;>first|rfl|exact absurd rfl hj)
  (fun j hj hc=>by rcases j with _|_|_|_|_|_|_|_|_|_|_|j<;>first|exact hc|exact absurd rfl hj|exact dX.mono hc hn|exact bJ.mono hc hn) hw (fun k hk=> .inl hk) rfl
theorem dG.TG(h:dG w X M){n:Nat}{f:Int->Bool}(hw:bJ w' X.le n f)(hn:M.cnt<=n)(hk:Kept (fun k=>k=X.le) w w'):Step w X M w' X {M with leaves:=f,cnt:=n}:=
 h.upd 8 hk (fun j hj=>by rcases j with _|_|_|_|_|_|_|_|_|_|_|j<;>first|rfl|exact absurd rfl hj)
  (fun j hj hc=>by rcases j with _|_|_|_|_|_|_|_|_|_|_|j<;>first|exact hc|exact absurd rfl hj|exact dX.mono hc hn|exact bJ.mono hc hn) hw (fun k hk=> .inl hk) rfl
theorem dG.NV(h:dG w X M){n:Nat}{f:Int->Bool}(hw:bJ w' X.lo n f)(hn:M.cnt<=n)(hk:Kept (fun k=>k=X.lo) w w'):Step w X M w' X {M with lost:=f,cnt:=n}:=
 h.upd 9 hk (fun j hj=>by rcases j with _|_|_|_|_|_|_|_|_|_|_|j<;>first|rfl|exact absurd rfl hj)
  (fun j hj hc=>by rcases j with _|_|_|_|_|_|_|_|_|_|_|j<;>first|exact hc|exact absurd rfl hj|exact dX.mono hc hn|exact bJ.mono hc hn) hw (fun k hk=> .inl hk) rfl
theorem dG.setSt(h:dG w X M){Bc:Nat->Prop}{s':bV}(hst:dS w' X.sb Bc s')(hg:iH w X.FS Bc)(hk:Kept X.FS w w'):Step w X M w' {X with FS:=Bc} {M with st:=s'}:=
 h.upd 2 hk (fun j hj=>by rcases j with _|_|_|_|_|_|_|_|_|_|_|j<;>first|rfl|exact absurd rfl hj)
  (fun j hj hc=>by rcases j with _|_|_|_|_|_|_|_|_|_|_|j<;>first|exact hc|exact absurd rfl hj) hst (fun k hk=>hg k hk) rfl
theorem dG.J9(h:dG w X M){ns:List Int}{t:Int}(hw:xR w' X.wb ns t)(hk:Kept (fun k=>k=X.wb) w w'):Step w X M w' X {M with ns:=ns,tk:=t}:=
 h.upd 4 hk (fun j hj=>by rcases j with _|_|_|_|_|_|_|_|_|_|_|j<;>first|rfl|exact absurd rfl hj)
  (fun j hj hc=>by rcases j with _|_|_|_|_|_|_|_|_|_|_|j<;>first|exact hc|exact absurd rfl hj) hw (fun k hk=> .inl hk) rfl
end
end dM
namespace Pt
open aJ Fr Vn Ops Wl
def Hd:St->Prop
 |[]=>False
 |[f]=>f.ts≠[]
 |_::g::R=>Hd (g::R)
theorem Hd.cons{f:pY}{R:St}(h:Hd R):Hd (f::R):=by
 cases R with
 |nil=>exact h.elim
 |cons g R=>exact h
theorem TI{R:St}(h:R=[]\/Hd R)(t:List UInt8):Hd (app R t):=by
 cases R with
 |nil=>show([t]:List (List UInt8))≠[];simp
 |cons f R=>
  have h:Hd (f::R):=by rcases h with h|h;cases h;exact h
  by_cases hf:full f
  ·rw[DF hf];exact h.cons
  ·rw[FD hf]
   cases R with
   |nil=>show f.ts++[t]≠[];simp
   |cons g R=>exact h
theorem Ko:∀{T:List (List UInt8)} {R:St},Hd R->Hd (cur R T)
 |[],_,h=>h
 |t::T,R,h=>by rw[zo];exact Ko (TI (.inr h) t)
theorem TJ(t:List UInt8)(T:List (List UInt8)):Hd (cur [] (t::T)):=by rw[zo];exact Ko (TI (.inl rfl) t)
theorem Hd.texts:∀{R:St},Hd R->Wl.texts R≠[]
 |[],h=>h.elim
 |[f],h=>by
  have h2:f.ts≠[]:=h
  show []++f.ts≠[]
  simpa using h2
 |f::g::R,h=>by
  have:=Hd.texts (R:=g::R) h
  show Wl.texts (g::R)++f.ts≠[]
  simp[this]
section
variable{first:Int}{R:St}{m:aJ.Safe}{k:Nat}{l:List ByteArray}
theorem Hd.len{R:St}(h:Hd R):0<R.length:=by
 cases R with
 |nil=>exact h.elim
 |cons f R=>simp
end
end Pt
namespace Pt
open aJ Fr Vn Ops Wl
def total(fs:List pY):Nat:=(fs.map fun f=>(qW f).length).sum
end Pt
namespace Pt
open aJ Fr Vn Ops Wl
structure Xe where
 k:Int
 s:ByteArray
 A:Option Addr
 c:Nat
 l:List ByteArray
 n:Int
instance:Inhabited Xe:=⟨⟨0,⟨#[]⟩,none,0,[],0⟩⟩
end Pt
section
open Go.WideShapes Go.ChangeShapes
variable{H:Type}{enc:TypeId×Value->H}{W:World}{v:Value}{d:DataW H}{ps:List MemPlace}{r:Reach}{b0:Nat}
end
namespace Pt
open aJ Fr Vn Ops Wl
def Be(d:Nat->Nat):Nat->Nat
 |0=>0
 |i+1=>Be d i+d i
theorem TK{d:Nat->Nat}{b:Nat}(h:∀i,d i<=b):∀k,Be d k<=k*b
 |0=>Nat.zero_le _
 |k+1=>by have:=TK h k;have:=h k;show Be d k+d k<=_;rw[Nat.succ_mul];omega
section
variable{w:World}{B gp gw g n c:Nat}{F:Nat->Prop}{m:aJ.Safe}{ps:List aJ.Pc}{aV aO first:Int}{R:St}{T:List (List UInt8)}{A:Option Addr}{l:List ByteArray}
theorem GM(h:nZ w B gp gw g F n m ps aV aO first R T A c l)(hf:Fits n m ps)(hK:(cur R T).length<=100000)(h2:first<=1073741824):
  Calls Tryz.prog 112 #[.pointer (some ⟨gp,0,none⟩)] w fun e w'=>e=.returned (.int .i64 (Be (fun j=>(dataOf m ps (first+j)).size) (cur R T).length:Nat))/\Kept aj w w':=by
 have hno:=xE h.p
 have hfi:=qV h.d hf.i64 hf.n (by have:=hf.len;omega)
 have hif:=h.low.cu h.log
 have hf1:=h.f1
 have hsb:∀j:Nat,(dataOf m ps (first+j)).size<=66000:=fun j=>by rw[(h.log.file j).2,lX];exact Tv (JQ h.log.ok h.log.T) j
 have hda:=fun(x:Int) (hx:0<=x/\x<=2305843009213693952) (W:World) (hW:Kept aj w W)=>DC (h.d.kept hW (fun _ _ z=>z)) x (jq hx.1 (by omega)) (by have:=hf.len;omega) (by have:=hf.file x;have:=hf.total;omega)
 obtain⟨d,hd⟩:∃d:Nat->Nat,(fun j:Nat=>(dataOf m ps (first+j)).size)=d:=⟨_,rfl⟩
 have hdj:∀j:Nat,(dataOf m ps (first+j)).size=d j:=fun j=>by rw[<-hd]
 have hdb:∀j,d j<=66000:=fun j=>by rw[<-hdj j];exact hsb j
 have hsz:=TK hdb
 obtain⟨K,hKe⟩:∃K,(cur R T).length=K:=⟨_,rfl⟩
 rw[hKe]at hif hK⊢
 rw[hd]
 have hp:=h.p
 have c1:w.cell? ⟨gp,1,none⟩=some (.pointer (some ⟨g,0,none⟩)):=hp.cell 1
 have iZ:=ah hno;have qh:=ah hfi;have HIF:=ah hif;have SL:=ah hda;have HDJ:=ah hdj;have HDB:=ah hdb;have kZ:=ah hsz;have HP:=ah hp
 clear hno hfi hif hda hdj hdb hsz h hf hsb hd hp hKe
 go_enter Tryz.func112,Tryz.ntmps112
 go_wp2_with fail
 refine iZ.out.mono ?_
 rintro e w' ⟨rfl,rfl⟩
 go_wp2_with fail
 refine qh.out.mono ?_
 rintro e w1 ⟨fl,A1,c1',rfl,hfa,hown,-,hk1⟩
 have hfl:=PG hfa HIF.out (by omega) (by omega)
 have hlen:fl.length=K:=by rw[hfl];simp[nums]
 have hsrc:=Src.bC hown
 rw[hlen]at hsrc⊢
 have hget:∀i:Nat,i<K->fl[i]? =some (first+i):=by
  intro i hi
  rw[hfl]
  unfold nums
  rw[List.getElem?_map,List.getElem?_range hi]
  rfl
 have JW:=ah hsrc;have acL:=ah hget;have gI:=ah hk1
 clear hfa hown hk1 hfl hlen hsrc hget c1
 go_wp2_with fail
 go_loopw [3,14] (fun v3 v14 wr=>∃i:Nat,i<=K/\v14=.int .i64 i/\v3=.int .i64 (Be d i:Nat)/\Kept aj w1 wr) (fun _ v14 _=>K-(intOf v14).toNat)
 case atStart=>exact⟨0,Nat.zero_le _,rfl,rfl,Kept.refl _ _⟩
 case round=>
  obtain⟨i,hi,rfl,rfl,hk⟩:=hrel
  by_cases hil:i<K
  ·have hx:=acL.out i hil
   obtain⟨ad,rfl,-,e0⟩:=AU.vF (JW.out.kept hk (fun _ _ z=>z)) (by omega) i _ hx
   obtain⟨x,hxe⟩:∃x,first+(i:Int)=x:=⟨_,rfl⟩
   rw[hxe]at e0 hx
   have hpr:=(HP.out.kept gI.out (fun z=>z)).kept hk (fun z=>z)
   have d1:wr.cell? ⟨gp,1,none⟩=some (.pointer (some ⟨g,0,none⟩)):=hpr.cell 1
   have d2:wr.cell? ⟨gp,2,none⟩=some (.int .i64 first):=hpr.cell 2
   have q1:first<=x:=by omega
   have hda:=SL.out x ⟨by omega,by omega⟩ wr (gI.out.then hk)
   obtain⟨D,hD⟩:∃D,dataOf m ps x=D:=⟨_,rfl⟩
   have hDs:D.size=d i:=by rw[<-hD,<-hxe];exact HDJ.out i
   rw[hD]at hda
   have hb1:=kZ.out i
   have hb2:=HDB.out i
   have hst:Be d (i+1)=Be d i+D.size:=by rw[hDs];rfl
   have hq:Be d i<=6600000000:=by omega
   have hq2:D.size<=66000:=by omega
   obtain⟨z,hz⟩:∃z,Be d i=z:=⟨_,rfl⟩
   rw[hz]at hst hq⊢
   have HD:=ah hda;have HST:=ah hst;have HK:=ah hk
   clear hk hx hpr hda hD hDs hb1 hb2 hst hz hxe
   go_wp2_with fail
   refine HD.out.mono ?_
   rintro e w3 ⟨rfl,hk3⟩
   have bf:=ah (HK.out.then hk3)
   clear hk3
   go_wp2
   go_roundw
   case rel=>exact⟨i+1,by omega,by go_num,by rw[HST.out];go_num,bf.out⟩
   case measure=>simp[intOf];omega
  ·obtain rfl:i=K:=by omega
   have HK:=ah (gI.out.then hk)
   clear hk
   go_wp2
   go_ret
   exact⟨rfl,HK.out⟩
end
end Pt
namespace Pt
open aJ Fr Vn Ops Wl
section
variable{w:World}{B gp gw g n c:Nat}{F:Nat->Prop}{m:aJ.Safe}{ps:List aJ.Pc}{aV aO first:Int}{R:St}{T:List (List UInt8)}{A:Option Addr}{l:List ByteArray}
def TL(w:World)(B gp gw g:Nat)(F:Nat->Prop)(n:Nat)(m:aJ.Safe)(ps:List aJ.Pc)(aV aO first:Int)(R:St)(T:List (List UInt8))(A:Option Addr)(c:Nat)(l:List ByteArray)(s:ByteArray)(e:Ending)(w':World):Prop:=
 e=.returned (.int .i64 0)/\∃F' A' c',nZ w' B gp gw g F' n m (ps++[(first+lastOf (cur R T),bu (bM (84::bl s)))]) aV aO first R (T++[84::bl s]) A' c' (l++[s])/\Kept (PF gp gw F A l.length c) w w'/\(∀k,F' k->F k\/w.heap.size<=k)/\(∀k,(Value.slice A' (l++[s]).length c').ownBlock=some k->(Value.slice A l.length c).ownBlock=some k\/w.heap.size<=k)
theorem TM(h:nZ w B gp gw g F n m ps aV aO first R T A c l)(hf:Fits n m ps)(hB:B<=w.heap.size)(h2:first+lastOf (cur R T)<=1073741824)(hl:l.length<=1000000)(s:ByteArray)(hs:s.size<65536):
  Calls Tryz.prog 109 #[.pointer (some ⟨gp,0,none⟩),.string s] w (TL w B gp gw g F n m ps aV aO first R T A c l s):=by
 have hno:=xE h.p
 have hlo:=fun W=>sO W s false (decide_eq_false (by omega))
 have hap:=CY h.d h.wl h.log hf h.f1 h2 (bu (84::bl s)) (by rw[lX];simp[dh];omega)
 rw[kN]at hap
 have c0:w.cell? ⟨gp,0,none⟩=some (.pointer (some ⟨gw,0,none⟩)):=h.p.cell 0
 have q1:¬9223372036854775807<(⟨#[84]⟩:ByteArray).size+s.size:=by show¬_<1+_;omega
 have H:=ah h;have iZ:=ah hno;have QV:=ah hlo;have TB:=ah hap;have HF:=ah hf
 have hM:l.length+1<=maxLen:=by unfold maxLen;omega
 have hY:(l.length+1)*16<=140737488355328:=by omega
 have HMX:=ah hM;have HY:=ah hY
 clear h hno hlo hap hf hM hY
 go_enter Tryz.func109,Tryz.ntmps109
 go_wp2_with fail
 refine iZ.out.mono ?_
 rintro e w' ⟨rfl,rfl⟩
 go_wp2_with fail
 refine(QV.out _).mono ?_
 rintro e w' ⟨rfl,rfl⟩
 go_wp2_with fail
 rw[YA]
 refine TB.out.mono ?_
 rintro e w3 ⟨rfl,F3,hd3,hG3,hw3,hk3⟩
 have hp3:=H.out.p.kept hk3 (fun hh=>by rcases hh with hh|hh;exact H.out.Ba.1 hh;exact H.out.Ba.2.2 hh)
 have hr3:=aC H.out.row.1 hk3 (fun k hk hh=>by rcases hh with hh|hh;exact(H.out.BZ hk).1 hh;exact(H.out.BZ hk).2.2 hh)
 have d3:w3.cell? ⟨gp,3,none⟩=some (.slice A l.length c):=hp3.cell 3
 have f3:=hp3.frozen 3
 have hgl:=hp3.lt
 have HD3:=ah hd3;have YE:=ah hG3;have HW3:=ah hw3;have bf:=ah hk3;have yj:=ah hp3;have HR3:=ah hr3
 have HOW:=ah (aC hr3 (F:=aj) ((Kept.refl _ w3).alloc (.cells #[.string s] 9)) (fun _ _ z=>z))
 clear hd3 hG3 hw3 hk3 hp3 hr3 q1 c0
 go_wp2_with (at_builtin;refine aI BV (.tmp 26) (.tmp 28) rfl rfl (Value.slice A l.length c) rfl HOW.out 1 rfl (Src.bW (m:=1) (Has.new w3 9 #[.string s]) rfl) (FB _) HMX.out HY.out ?_;intro A9 c9 w9 Tj Tm Tn;have hkr:Kept (fun k=>(Value.slice A l.length c).ownBlock=some k) w3 w9:=Kept.grown ((Kept.refl _ w3).alloc _) Tm (fun k hk=> .inl hk);have YF:=yj.out.kept hkr (fun hk=>(H.out.BZ hk).2.1 rfl);have d9:=YF.cell 3;have f9:=YF.frozen 3;have xB:=ah Tj;have Yz:=ah Tn;have DY:=ah hkr;have HP9:=ah YF;clear Tj Tm Tn hkr YF)
 go_ret
 have rJ:Kept (fun k=>k=gp) w9 (w9.setCell ⟨gp,3,none⟩ (.slice A9 (l.length+1) c9)):=(Kept.refl _ w9).put (.inl rfl)
 have hlen:(l++[s]).length=l.length+1:=by simp
 have hF3:∀k,F3 k->∀t cs,Has w3 k t cs->t≠104->t≠118->False:=fun k hk t cs hh e1 e2=>aX.not HD3.out hh e1 e2 hk
 have hdr:∀k,F3 k->¬(Value.slice A l.length c).ownBlock=some k:=fun k hk hb=>by
  obtain⟨cs,hh⟩:=jH HR3.out hb
  exact hF3 k hk _ _ hh (by decide) (by decide)
 have hd9:=HD3.out.kept DY.out hdr
 have acM:=HP9.out.put 3 (.slice A9 (l.length+1) c9)
 have YG:=HW3.out.kept DY.out (fun hk=>by
  obtain⟨cs,hh⟩:=jH HR3.out hk
  exact Has.ne hh HW3.out (by decide) rfl)
 refine⟨rfl,F3,A9,c9,⟨hd9.kept rJ (fun k hk e=>hF3 k hk _ _ (e▸yj.out) (by decide) (by decide)),?_,YG.kept rJ (fun e=>H.out.Ba.2.2 e.symm),⟨?_,?_⟩,H.out.log.append (by simp[dh];omega),H.out.low.append (by omega),H.out.f1,?_,?_⟩,?_,fun k hk=>YE.out k hk,?_⟩
 ·rw[hlen];exact acM
 ·rw[hlen,List.map_append]
  exact aC xB.out rJ (fun k hk e=>by
   obtain⟨cs,hh⟩:=jH xB.out hk
   exact Has.ne hh (e▸HP9.out) (by decide) rfl)
 ·intro k hk
  rw[hlen]at hk
  rcases Yz.out with e|e
  ·exact H.out.row.2 k (e.symm.trans hk)
  ·have h9:=e.symm.trans hk
   injection h9 with h9
   have:=bf.out.size
   simp at h9
   omega
 ·obtain⟨k,h3,h4⟩:=H.out.tx
  exact⟨k,by rw[JU,<-h3,List.append_assoc],h4⟩
 ·intro x hx
  rcases List.mem_append.1 hx with hx|hx
  ·exact H.out.hs x hx
  ·simp at hx;subst hx;exact hs
 ·refine(((bf.out.mono (fun k hk=> ?_)).then (DY.out.mono (fun k hk=> ?_)))).then (rJ.mono (fun k hk=> ?_))
  ·rcases hk with hk|hk
   ·exact .inl hk
   ·exact .inr (.inr (.inl hk))
  ·exact .inr (.inr (.inr hk))
  ·exact .inr (.inl hk)
 ·intro k hk
  rw[hlen]at hk
  rcases Yz.out with e|e
  ·exact .inl (e.symm.trans hk)
  ·have h9:=e.symm.trans hk
   injection h9 with h9
   have:=bf.out.size
   simp at h9
   exact .inr (by omega)
def TN(w:World)(B gp gw g:Nat)(F:Nat->Prop)(n:Nat)(m:aJ.Safe)(ps:List aJ.Pc)(aV aO first:Int)(R:St)(T:List (List UInt8))(A:Option Addr)(c:Nat)(l:List ByteArray)(e:Ending)(w':World):Prop:=
 (∃k:Int,e=.returned (.int .i64 k))/\nZ w' B gp gw g F (n+ps.length) (kK m ps) [] aV aO first (cur R T) [] A c l/\Kept F w w'
theorem TP(h:nZ w B gp gw g F n m ps aV aO first R T A c l)(hf:Fits n m ps):Calls Tryz.prog 111 #[.pointer (some ⟨g,0,none⟩)] w (TN w B gp gw g F n m ps aV aO first R T A c l):=by
 have htt:=hf.total
 refine(Jz h.d hf.i64 (by have:=hf.len;omega) (by have:=hf.n;omega) 100000 hf.file (by omega)).mono ?_
 rintro e w' ⟨rfl,h1,h2⟩
 refine⟨⟨_,rfl⟩,⟨h1,h.p.kept h2 h.Ba.1,h.wl.kept h2 h.Ba.2.1,⟨aC h.row.1 h2 (fun k hk=>(h.BZ hk).1),h.row.2⟩,h.log.sync,h.low.sync,h.f1,?_,h.hs⟩,h2⟩
 obtain⟨k,h3,h4⟩:=h.tx
 refine⟨k,by rw[pI,List.append_nil,h3],?_⟩
 rw[pI,List.length_append]
 omega
end
end Pt
end Go.Proofs.YtolkgbafebehfaaGreat

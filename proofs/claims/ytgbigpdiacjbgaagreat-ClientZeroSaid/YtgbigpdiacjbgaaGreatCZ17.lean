/- Part 18. -/
import Derived.Test.YtgbigpdiacjbgaaGreatCZ02
set_option linter.unusedSimpArgs false
set_option linter.unusedVariables false
set_option maxHeartbeats 32000000
set_option maxRecDepth 100000
namespace Go.Proofs.YtgbigpdiacjbgaaGreat
open Go.RowKit Go.Shelf
namespace qj
open Vn Ops oU
abbrev KB:=Nat×Obj
theorem nX{w:World}{k:Nat}{o:Obj}(h:w.heap[k]? =some o):k<w.heap.size:=(Array.getElem?_eq_some_iff.1 h).1
theorem jo{F:Nat->Prop}{a b:World}{k:Nat}{o:Obj}(h:a.heap[k]? =some o)(hk:Kept F a b)(hf:¬F k):b.heap[k]? =some o:=(hk.block k (nX h) hf).trans h
def WS(N:Nat)(w:World)(g:Nat)(bs:List UInt8)(keep:List KB):Prop:=
 N<=w.heap.size/\∃F,bY w g F bs/\(∀k,F k->N<=k)/\∀x∈keep,¬F x.1/\w.heap[x.1]? =some x.2
section
variable{N g:Nat}{w w':World}{bs:List UInt8}{keep:List KB}
theorem WS.drewN(h:WS N w g bs keep)(n:Nat):WS N (w.drewN n) g bs keep:=h
theorem WS.alloc(h:WS N w g bs keep)(o:Obj):WS N (w.alloc o) g bs keep:=by obtain⟨h0,F,h1,h2,h3⟩:=h;exact⟨by simp;omega,F,h1.kept ((Kept.refl aj w).alloc o) (gB F),h2,fun x hx=>⟨(h3 x hx).1,jo (h3 x hx).2 ((Kept.refl aj w).alloc o) (fun z=>z)⟩⟩
theorem WS.add(h:WS N w g bs keep)(o:Obj):WS N (w.alloc o) g bs ((w.heap.size,o)::keep):=by
 obtain⟨h0,F,h1,h2,h3⟩:=h;refine⟨by simp;omega,F,h1.kept ((Kept.refl aj w).alloc _) (gB F),h2,fun x hx=> ?_⟩;rcases List.mem_cons.1 hx with rfl|hx
 ·exact⟨fun hF=>by have:=h1.lt _ hF;simp at this,heap_alloc_new w o⟩
 ·exact⟨(h3 x hx).1,jo (h3 x hx).2 ((Kept.refl aj w).alloc _) (fun z=>z)⟩
theorem WS.tail{x:KB}(h:WS N w g bs (x::keep)):WS N w g bs keep:=by obtain⟨h0,F,h1,h2,h3⟩:=h;exact⟨h0,F,h1,h2,fun y hy=>h3 y (List.mem_cons_of_mem _ hy)⟩
theorem WS.uw{x y:KB}(h:WS N w g bs (x::y::keep)):WS N w g bs (y::keep):=h.tail
theorem WS.has{x:KB}(h:WS N w g bs keep)(hx:x∈keep):w.heap[x.1]? =some x.2:=by obtain⟨h0,F,h1,h2,h3⟩:=h;exact(h3 x hx).2
theorem WS.kept{G:Nat->Prop}(h:WS N w g bs keep)(hk:Kept aj w w'):WS N w' g bs keep:=by obtain⟨h0,F,h1,h2,h3⟩:=h;exact⟨Nat.le_trans h0 hk.size,F,h1.kept hk (gB F),h2,fun x hx=>⟨(h3 x hx).1,jo (h3 x hx).2 hk (fun y=>y)⟩⟩
theorem WS.iterAt{k p q:Nat}{s:ByteArray}(h:WS N w g bs ((k,.stringIter s p)::keep))(hd:∀x∈keep,x.1≠k):WS N (w.iterAt k s q) g bs ((k,.stringIter s q)::keep):=by
 obtain⟨h0,F,h1,h2,h3⟩:=h;have hk:=h3 (k,.stringIter s p) (List.mem_cons_self ..);refine⟨by rw[Lib.iterAt_size];exact h0,F,h1.kept (G:=fun j=>j=k) ⟨rfl,rfl,rfl,by rw[Lib.iterAt_size];exact Nat.le_refl _,fun i _ hi=>Lib.iterAt_other w k i s q hi⟩ (fun j hj e=>hk.1 (e▸hj)),h2,fun x hx=> ?_⟩;rcases List.mem_cons.1 hx with rfl|hx
 ·exact⟨hk.1,Lib.iterAt_heap w k s p q hk.2⟩
 ·have h4:=h3 x (List.mem_cons_of_mem _ hx);exact⟨h4.1,(Lib.iterAt_other w k x.1 s q (hd x hx)).trans h4.2⟩
def gJ(N:Nat)(w:World)(g:Nat)(bs:List UInt8)(keep:List KB)(e:Ending)(w':World):Prop:=e=.returned (.pointer (some ⟨g,0,none⟩))/\WS N w' g bs keep/\Below N w w'
theorem WS.step{f:FuncId}{args:Array Value}{bs':List UInt8}(h:WS N w g bs keep)
  (hc:∀F,bY w g F bs->Calls Tryz.prog f args w (Wrote w g F bs')):Calls Tryz.prog f args w (gJ N w g bs' keep):=by
 obtain⟨h0,F,h1,h2,h3⟩:=h;refine(hc F h1).mono ?_;rintro e w' ⟨he,F',g1,g2,g3⟩;refine⟨he,⟨Nat.le_trans h0 g3.size,F',g1,fun k hk=> ?_,fun x hx=>⟨fun hF=> ?_,jo (h3 x hx).2 g3 (h3 x hx).1⟩⟩,g3.below h0 h2⟩
 ·rcases g2 k hk with y|y
  ·exact h2 k y
  ·omega
 ·rcases g2 x.1 hF with y|y
  ·exact(h3 x hx).1 y
  ·have:=nX (h3 x hx).2;omega
theorem dU(h:WS N w g bs keep)(n:Nat)(hn:n<=9223372036854775807)(hlen:bs.length+9<=140737488355328):
  Calls Tryz.prog 88 #[.pointer (some ⟨g,0,none⟩),.int .i64 n] w (gJ N w g (bs++put n) keep):=h.step fun F hF=>qy w g F bs n hn hF hlen
theorem l7(h:WS N w g bs keep)(n:Nat)(hn:n<18446744073709551616)(hlen:bs.length+9<=140737488355328):
  Calls Tryz.prog 132 #[.pointer (some ⟨g,0,none⟩),.int .u64 n] w (gJ N w g (bs++put n) keep):=h.step fun F hF=>qA w g F bs n hn hF hlen
theorem eu(h:WS N w g bs keep)(s:ByteArray)(hlen:bs.length+9+s.size<=140737488355328):
  Calls Tryz.prog 131 #[.pointer (some ⟨g,0,none⟩),.string s] w (gJ N w g (bs++aP s) keep):=h.step fun F hF=>pq w g F bs s hF hlen
theorem qT(h:WS N w g bs keep)(b:Bool)(hlen:bs.length+9<=140737488355328):
  Calls Tryz.prog 171 #[.pointer (some ⟨g,0,none⟩),.bool b] w (gJ N w g (bs++jF b) keep):=h.step fun F hF=>pz w g F bs b hF (by omega)
theorem nV(w:World)(keep:List KB)(hk:∀x∈keep,w.heap[x.1]? =some x.2):
  Calls Tryz.prog 87 #[] w fun e w'=>∃g,e=.returned (.pointer (some ⟨g,0,none⟩))/\WS w.heap.size w' g [] keep/\Kept aj w w':=by
 refine(qB w).mono ?_;rintro e w' ⟨he,h1,h2⟩;exact⟨w.heap.size,he,⟨h2.size,_,h1,fun k hk=>by rw[hk];exact Nat.le_refl _,fun x hx=>⟨fun e=>by have:=nX (hk x hx);omega,jo (hk x hx) h2 (fun y=>y)⟩⟩,h2⟩
theorem kZ(h:WS N w g bs keep)(h0:bs≠[]):
  Calls Tryz.prog 90 #[.pointer (some ⟨g,0,none⟩)] w fun e w'=>e=.returned (.tuple #[.string (bJ bs),.int .i64 0])/\Below N w w':=by
 obtain⟨hN,F,h1,h2,h3⟩:=h;refine(qx w g F bs h1 h0).mono ?_;rintro e w' ⟨he,hk⟩;exact⟨he,hk.below hN h2⟩
theorem behind{a b:World}(h:Kept aj w a)(hb:Below N a b)(hN:w.heap.size<=N):Kept aj w b:=
 h.trans (G:=fun k=>N<=k) (Kept.of_below hb fun k _ hf=>by omega) fun i hi=> .inr (by omega)

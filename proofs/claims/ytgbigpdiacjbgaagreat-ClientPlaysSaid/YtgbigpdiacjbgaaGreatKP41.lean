/- Part 42. -/
import Derived.Test.YtgbigpdiacjbgaaGreatKP36
import Derived.Test.YtgbigpdiacjbgaaGreatKP40
set_option linter.unusedSimpArgs false
set_option linter.unusedVariables false
set_option maxHeartbeats 32000000
set_option maxRecDepth 100000
namespace Go.Proofs.YtgbigpdiacjbgaaGreat
open Go.RowKit
namespace Rm
open bg Ops fG eP MO Vn bJ qh iI Cli Go.Proofs.YtgbigpdiacjbgaaGreat.Ask
attribute [local go_sem↓] bW cZ
section
variable{w W W':World}{g:Nat}{x:aO}{bs:List UInt8}
theorem TU(b:Batch):wK b=Ops.qy b:=rfl
theorem aas(h:lD w g bs)(hlen:bs.length+200<=100000)(hs:Sends w x):Calls Tryz.prog 120 #[.pointer (some ⟨g,0,none⟩),aK x,.int .u8 101] w (iY w g (bs++bT x 101)):=by
 obtain⟨W0,hW0⟩:∃W0,w.alloc (.cells (au x).toArray 63)=W0:=⟨_,rfl⟩;have hk0:Kept aj w W0:=by rw[<-hW0];(repeat'(first|(with_reducible first|exact ay|apply aA|apply aB|apply aC|apply aF)|(right;simp;done)))
 have hn0:Has W0 w.heap.size 63 (au x).toArray:=by rw[<-hW0];exact Has.new _ _ _
 have hb0:lD W0 g bs:=h.kept hk0 (fun z=>z);have hl0:=aH W0 w.heap.size x hn0;have hr:=hs.e;have hp:bT x 101=put x.ep.toNat:=rfl;rw[hp];obtain⟨n,hn⟩:∃n:Nat,x.ep=n:=⟨x.ep.toNat,by omega⟩;have hnum:=NW W0 x;rw[hn]at hnum hr⊢;rw[Int.toNat_natCast];have hx:=fun W (hW:Kept aj W0 W)=>tJ W g bs n (by omega) (hb0.kept hW (fun z=>z)) (by omega);have hfin:∀W W',Kept aj W0 W->lD W' g (bs++put n)->Kept (fun k=>k=g) W W'->iY w g (bs++put n) (.returned (.tuple #[])) W':=fun W W' hW a b=>⟨rfl,a,((hk0.then hW).mono (fun _ z=>z.elim)).trans b (fun _ z=> .inl z)⟩;generalize iY w g (bs++put n)=Q at hfin⊢;obtain⟨cs,hcs⟩:∃cs,(au x).toArray=cs:=⟨_,rfl⟩;unfold aK at hnum⊢;rw[hcs]at hW0 hl0 hnum⊢;have uq:=ah hnum;have HX:=ah hx;have bF:=ah hfin;clear hnum hx hfin hk0 hn0 hb0 hn hr hs h hp hcs;go_enter Tryz.func120,Tryz.ntmps120;go_wp2_with fail;clear hW0 hl0;refine uq.out.mono ?_;rintro e w1 ⟨rfl,hk1⟩;have iL:=ah hk1;clear hk1;go_wp2_with fail;refine(HX.out w1 iL.out).mono ?_;rintro e w2 ⟨rfl,hb2,hk2⟩;have HF:=ah (bF.out w1 w2 iL.out hb2 hk2);clear hb2 hk2;go_wp2;go_end0;exact HF.out
theorem aat(h:lD w g bs)(hlen:bs.length+200<=100000)(hs:Sends w x):Calls Tryz.prog 120 #[.pointer (some ⟨g,0,none⟩),aK x,.int .u8 114] w (iY w g (bs++bT x 114)):=by
 obtain⟨W0,hW0⟩:∃W0,w.alloc (.cells (au x).toArray 63)=W0:=⟨_,rfl⟩;have hk0:Kept aj w W0:=by rw[<-hW0];(repeat'(first|(with_reducible first|exact ay|apply aA|apply aB|apply aC|apply aF)|(right;simp;done)))
 have hn0:Has W0 w.heap.size 63 (au x).toArray:=by rw[<-hW0];exact Has.new _ _ _
 have hb0:lD W0 g bs:=h.kept hk0 (fun z=>z);have hl0:=aH W0 w.heap.size x hn0;have hr:=hs.r;have hp:bT x 114=put x.req.toNat:=rfl;rw[hp];obtain⟨n,hn⟩:∃n:Nat,x.req=n:=⟨x.req.toNat,by omega⟩;have hnum:=NY W0 x;rw[hn]at hnum hr⊢;rw[Int.toNat_natCast];have hx:=fun W (hW:Kept aj W0 W)=>tJ W g bs n (by omega) (hb0.kept hW (fun z=>z)) (by omega);have hfin:∀W W',Kept aj W0 W->lD W' g (bs++put n)->Kept (fun k=>k=g) W W'->iY w g (bs++put n) (.returned (.tuple #[])) W':=fun W W' hW a b=>⟨rfl,a,((hk0.then hW).mono (fun _ z=>z.elim)).trans b (fun _ z=> .inl z)⟩;generalize iY w g (bs++put n)=Q at hfin⊢;obtain⟨cs,hcs⟩:∃cs,(au x).toArray=cs:=⟨_,rfl⟩;unfold aK at hnum⊢;rw[hcs]at hW0 hl0 hnum⊢;have uq:=ah hnum;have HX:=ah hx;have bF:=ah hfin;clear hnum hx hfin hk0 hn0 hb0 hn hr hs h hp hcs;go_enter Tryz.func120,Tryz.ntmps120;go_wp2_with fail;clear hW0 hl0;refine uq.out.mono ?_;rintro e w1 ⟨rfl,hk1⟩;have iL:=ah hk1;clear hk1;go_wp2_with fail;refine(HX.out w1 iL.out).mono ?_;rintro e w2 ⟨rfl,hb2,hk2⟩;have HF:=ah (bF.out w1 w2 iL.out hb2 hk2);clear hb2 hk2;go_wp2;go_end0;exact HF.out
theorem aau(h:lD w g bs)(hlen:bs.length+200<=100000)(hs:Sends w x):Calls Tryz.prog 120 #[.pointer (some ⟨g,0,none⟩),aK x,.int .u8 110] w (iY w g (bs++bT x 110)):=by
 obtain⟨W0,hW0⟩:∃W0,w.alloc (.cells (au x).toArray 63)=W0:=⟨_,rfl⟩;have hk0:Kept aj w W0:=by rw[<-hW0];(repeat'(first|(with_reducible first|exact ay|apply aA|apply aB|apply aC|apply aF)|(right;simp;done)))
 have hn0:Has W0 w.heap.size 63 (au x).toArray:=by rw[<-hW0];exact Has.new _ _ _
 have hb0:lD W0 g bs:=h.kept hk0 (fun z=>z);have hl0:=aH W0 w.heap.size x hn0;have hr:=hs.n;have hp:bT x 110=put x.n.toNat:=rfl;rw[hp];obtain⟨n,hn⟩:∃n:Nat,x.n=n:=⟨x.n.toNat,by omega⟩;have hnum:=NZ W0 x;rw[hn]at hnum hr⊢;rw[Int.toNat_natCast];have hx:=fun W (hW:Kept aj W0 W)=>tJ W g bs n (by omega) (hb0.kept hW (fun z=>z)) (by omega);have hfin:∀W W',Kept aj W0 W->lD W' g (bs++put n)->Kept (fun k=>k=g) W W'->iY w g (bs++put n) (.returned (.tuple #[])) W':=fun W W' hW a b=>⟨rfl,a,((hk0.then hW).mono (fun _ z=>z.elim)).trans b (fun _ z=> .inl z)⟩;generalize iY w g (bs++put n)=Q at hfin⊢;obtain⟨cs,hcs⟩:∃cs,(au x).toArray=cs:=⟨_,rfl⟩;unfold aK at hnum⊢;rw[hcs]at hW0 hl0 hnum⊢;have uq:=ah hnum;have HX:=ah hx;have bF:=ah hfin;clear hnum hx hfin hk0 hn0 hb0 hn hr hs h hp hcs;go_enter Tryz.func120,Tryz.ntmps120;go_wp2_with fail;clear hW0 hl0;refine uq.out.mono ?_;rintro e w1 ⟨rfl,hk1⟩;have iL:=ah hk1;clear hk1;go_wp2_with fail;refine(HX.out w1 iL.out).mono ?_;rintro e w2 ⟨rfl,hb2,hk2⟩;have HF:=ah (bF.out w1 w2 iL.out hb2 hk2);clear hb2 hk2;go_wp2;go_end0;exact HF.out
theorem aa3(h:lD w g bs)(hlen:bs.length+200<=100000)(hs:Sends w x)(ha:0<=x.at'/\x.at'<=aY):Calls Tryz.prog 120 #[.pointer (some ⟨g,0,none⟩),aK x,.int .u8 97] w (iY w g (bs++bT x 97)):=by
 obtain⟨W0,hW0⟩:∃W0,w.alloc (.cells (au x).toArray 63)=W0:=⟨_,rfl⟩;have hk0:Kept aj w W0:=by rw[<-hW0];(repeat'(first|(with_reducible first|exact ay|apply aA|apply aB|apply aC|apply aF)|(right;simp;done)))
 have hn0:Has W0 w.heap.size 63 (au x).toArray:=by rw[<-hW0];exact Has.new _ _ _
 have hb0:lD W0 g bs:=h.kept hk0 (fun z=>z);have q:W0.cell? ⟨w.heap.size,5,none⟩=some (.int .u64 x.at'):=hn0.cell 5;have hp:bT x 97=put x.at'.toNat:=rfl;rw[hp];obtain⟨n,hn⟩:∃n:Nat,x.at'=n:=⟨x.at'.toNat,by omega⟩;rw[hn]at q ha⊢;rw[Int.toNat_natCast];have hx:=Dv W0 g bs n (by unfold aY at ha;omega) hb0 (by omega);have hfin:∀W',lD W' g (bs++put n)->Kept (fun k=>k=g) W0 W'->iY w g (bs++put n) (.returned (.tuple #[])) W':=fun W' a b=>⟨rfl,a,(hk0.mono (fun _ z=>z.elim)).trans b (fun _ z=> .inl z)⟩;generalize iY w g (bs++put n)=Q at hfin⊢;have HX:=ah hx;have bF:=ah hfin;clear hx hfin hk0 hn0 hb0 hn ha hs h hp;go_enter Tryz.func120,Tryz.ntmps120;go_wp2_with fail;clear hW0 q;refine HX.out.mono ?_;rintro e w2 ⟨rfl,hb2,hk2⟩;have HF:=ah (bF.out w2 hb2 hk2);clear hb2 hk2;go_wp2;go_end0;exact HF.out
theorem aav(h:lD w g bs)(hlen:bs.length+200<=100000)(hs:Sends w x):Calls Tryz.prog 120 #[.pointer (some ⟨g,0,none⟩),aK x,.int .u8 107] w (iY w g (bs++bT x 107)):=by
 obtain⟨W0,hW0⟩:∃W0,w.alloc (.cells (au x).toArray 63)=W0:=⟨_,rfl⟩;have hk0:Kept aj w W0:=by rw[<-hW0];(repeat'(first|(with_reducible first|exact ay|apply aA|apply aB|apply aC|apply aF)|(right;simp;done)))
 have hn0:Has W0 w.heap.size 63 (au x).toArray:=by rw[<-hW0];exact Has.new _ _ _
 have hb0:lD W0 g bs:=h.kept hk0 (fun z=>z);have q:W0.cell? ⟨w.heap.size,11,none⟩=some (.string x.key):=hn0.cell 11;have hp:bT x 107=dA x.key:=rfl;rw[hp];have hsz:=hs.key;have hx:=wH W0 g bs x.key hb0 (by omega);have hfin:∀W',lD W' g (bs++dA x.key)->Kept (fun k=>k=g) W0 W'->iY w g (bs++dA x.key) (.returned (.tuple #[])) W':=fun W' a b=>⟨rfl,a,(hk0.mono (fun _ z=>z.elim)).trans b (fun _ z=> .inl z)⟩;generalize iY w g (bs++dA x.key)=Q at hfin⊢;have HX:=ah hx;have bF:=ah hfin;clear hx hfin hk0 hn0 hb0 hsz hs h hp;go_enter Tryz.func120,Tryz.ntmps120;go_wp2_with fail;clear hW0 q;refine HX.out.mono ?_;rintro e w2 ⟨rfl,hb2,hk2⟩;have HF:=ah (bF.out w2 hb2 hk2);clear hb2 hk2;go_wp2;go_end0;exact HF.out
theorem aaw(h:lD w g bs)(hlen:bs.length+200<=100000)(hs:Sends w x):Calls Tryz.prog 120 #[.pointer (some ⟨g,0,none⟩),aK x,.int .u8 116] w (iY w g (bs++bT x 116)):=by
 obtain⟨W0,hW0⟩:∃W0,w.alloc (.cells (au x).toArray 63)=W0:=⟨_,rfl⟩;have hk0:Kept aj w W0:=by rw[<-hW0];(repeat'(first|(with_reducible first|exact ay|apply aA|apply aB|apply aC|apply aF)|(right;simp;done)))
 have hn0:Has W0 w.heap.size 63 (au x).toArray:=by rw[<-hW0];exact Has.new _ _ _
 have hb0:lD W0 g bs:=h.kept hk0 (fun z=>z);have q:W0.cell? ⟨w.heap.size,12,none⟩=some (.string x.to):=hn0.cell 12;have hp:bT x 116=dA x.to:=rfl;rw[hp];have hsz:=hs.to;have hx:=wH W0 g bs x.to hb0 (by omega);have hfin:∀W',lD W' g (bs++dA x.to)->Kept (fun k=>k=g) W0 W'->iY w g (bs++dA x.to) (.returned (.tuple #[])) W':=fun W' a b=>⟨rfl,a,(hk0.mono (fun _ z=>z.elim)).trans b (fun _ z=> .inl z)⟩;generalize iY w g (bs++dA x.to)=Q at hfin⊢;have HX:=ah hx;have bF:=ah hfin;clear hx hfin hk0 hn0 hb0 hsz hs h hp;go_enter Tryz.func120,Tryz.ntmps120;go_wp2_with fail;clear hW0 q;refine HX.out.mono ?_;rintro e w2 ⟨rfl,hb2,hk2⟩;have HF:=ah (bF.out w2 hb2 hk2);clear hb2 hk2;go_wp2;go_end0;exact HF.out
theorem aa4(h:lD w g bs)(hlen:bs.length+200<=100000)(hs:Sends w x)(hk5:x.k=5):Calls Tryz.prog 120 #[.pointer (some ⟨g,0,none⟩),aK x,.int .u8 66] w (iY w g (bs++bT x 66)):=by
 obtain⟨W0,hW0⟩:∃W0,w.alloc (.cells (au x).toArray 63)=W0:=⟨_,rfl⟩;have hk0:Kept aj w W0:=by rw[<-hW0];(repeat'(first|(with_reducible first|exact ay|apply aA|apply aB|apply aC|apply aF)|(right;simp;done)))
 have hn0:Has W0 w.heap.size 63 (au x).toArray:=by rw[<-hW0];exact Has.new _ _ _
 have hb0:lD W0 g bs:=h.kept hk0 (fun z=>z);have q1:W0.cell? ⟨w.heap.size,16,none⟩=some (.int .i64 x.o7):=hn0.cell 16;have q2:W0.cell? ⟨w.heap.size,17,none⟩=some (.int .i64 x.lK):=hn0.cell 17;have q3:W0.cell? ⟨w.heap.size,18,none⟩=some (.slice x.oA x.ops.length x.oc):=hn0.cell 18;have hp:bT x 66=dA (Ops.qy (jU x)):=rfl;rw[hp];have hc:=Ops.TT W0 (jU x) x.oA x.oc (hs.s.kept hk0 (fun _ _ z=>z)) hs.c;dsimp only[nT,jU]at hc;have hsz:=xU (jU x);rw[TU]at hsz;change (Ops.qy ⟨x.o7,x.lK,x.ops⟩).size<=103 at hsz;change Calls _ _ _ w (iY w g (bs++dA (Ops.qy ⟨x.o7,x.lK,x.ops⟩)));obtain⟨tx,htx⟩:∃tx,Ops.qy ⟨x.o7,x.lK,x.ops⟩=tx:=⟨_,rfl⟩;rw[htx]at hc hsz⊢;have hx:=fun W (hW:Kept aj W0 W)=>wH W g bs tx (hb0.kept hW (fun z=>z)) (by omega);have hfin:∀W W',Kept aj W0 W->lD W' g (bs++dA tx)->Kept (fun k=>k=g) W W'->iY w g (bs++dA tx) (.returned (.tuple #[])) W':=fun W W' hW a b=>⟨rfl,a,((hk0.then hW).mono (fun _ z=>z.elim)).trans b (fun _ z=> .inl z)⟩;generalize iY w g (bs++dA tx)=Q at hfin⊢;have HC:=ah hc;have HX:=ah hx;have bF:=ah hfin;clear hc hx hfin hk0 hn0 hb0 hsz hs h hp htx hk5;go_enter Tryz.func120,Tryz.ntmps120;go_wp2_with fail;clear hW0 q1 q2 q3;refine HC.out.mono ?_;rintro e w1 ⟨rfl,hk1⟩;have iL:=ah hk1;clear hk1;go_wp2_with fail;refine(HX.out w1 iL.out).mono ?_;rintro e w2 ⟨rfl,hb2,hk2⟩;have HF:=ah (bF.out w1 w2 iL.out hb2 hk2);clear hb2 hk2;go_wp2;go_end0;exact HF.out
theorem aax(h:lD w g bs)(hlen:bs.length+200<=100000)(hs:Sends w x)(ha:0<=x.at'/\x.at'<=aY){c:Nat}(hc:c∈wR)(h5:c=66->x.k=5):Calls Tryz.prog 120 #[.pointer (some ⟨g,0,none⟩),aK x,.int .u8 c] w (iY w g (bs++bT x c)):=by
 unfold wR at hc;simp only[List.mem_cons,List.not_mem_nil,or_false]at hc;rcases hc with rfl|rfl|rfl|rfl|rfl|rfl|rfl
 ·exact aas h hlen hs
 ·exact aat h hlen hs
 ·exact aau h hlen hs
 ·exact aav h hlen hs
 ·exact aaw h hlen hs
 ·exact aa3 h hlen hs ha
 ·exact aa4 h hlen hs (h5 rfl)
end
theorem Et{w:World}{x:aO}(h:Sends w x):dP x=0:=by
 have hw:∀c∈partsOf x.k,aT x c=0:=fun c hc=>by
  obtain⟨hcl,h5⟩:=yK h.k c hc;have hr:∀n:Int,0<=n/\n<=1073741824->qM n=0:=fun n h=>if_neg (by omega);unfold wR at hcl;simp only[List.mem_cons,List.not_mem_nil,or_false]at hcl;rcases hcl with rfl|rfl|rfl|rfl|rfl|rfl|rfl
  ·exact hr _ h.e
  ·exact hr _ h.r
  ·exact hr _ h.n
  ·have h1:=h.key;show(if 8<x.key.size then (3:Int)else 0)=0;rw[if_neg (by omega)]
  ·have h1:=h.to;show(if 8<x.to.size then (3:Int)else 0)=0;rw[if_neg (by omega)]
  ·rfl
  ·exact h.b (h5 rfl)
 have hf:∀l:List Nat,(∀c∈l,aT x c=0)->bK (aT x) l=0:=fun l=>by
  induction l with
  |nil=>intro _;rfl
  |cons c l ih=>
   intro hl;rw[bK,if_pos (hl c (List.mem_cons_self ..))];exact ih (fun c hc=>hl c (List.mem_cons_of_mem _ hc))
 unfold dP;rw[if_pos (Xm.Ir h.k)];exact hf _ hw
attribute [local go_sem] ni
theorem TV(w:World)(x:aO)(h:Sends w x)(ha:0<=x.at'/\x.at'<=aY):Calls Tryz.prog 78 #[aK x] w fun e w'=>e=.returned (.tuple #[.string (nH x),.int .i64 0])/\Kept aj w w':=by
 obtain⟨W0,hW0⟩:∃W0,w.alloc (.cells (au x).toArray 63)=W0:=⟨_,rfl⟩;have hk0:Kept aj w W0:=by rw[<-hW0];(repeat'(first|(with_reducible first|exact ay|apply aA|apply aB|apply aC|apply aF)|(right;simp;done)))
 have hn0:Has W0 w.heap.size 63 (au x).toArray:=by rw[<-hW0];exact Has.new _ _ _
 have hck:=Nj W0 x (h.kept hk0);have hl0:=aH W0 w.heap.size x hn0;have hmr:nH x=fE (Bg x):=by unfold nH;rw[if_pos (Et h)]
 have hkr:0<=x.k/\x.k<=15:=by have:=h.k;omega
 have hpa:=fun W=>Lp W (k:=x.k) (Xm.Ir h.k);have hin:=yK h.k;have hpm:Bg x=put x.k.toNat++(partsOf x.k).flatMap (bT x):=rfl;have kJ:=pV x.k;have hwr:=(zH (Et h)).2;rw[hmr,hpm];obtain⟨kn,hkn⟩:∃kn:Nat,x.k=kn:=⟨x.k.toNat,by omega⟩;have q0:W0.cell? ⟨w.heap.size,0,none⟩=some (.int .i64 (kn:Int)):=by rw[<-hkn];exact hn0.cell 0
 rw[hkn]at hpa hin kJ hkr hwr⊢;rw[Int.toNat_natCast];obtain⟨l,hl⟩:∃l,partsOf (kn:Int)=l:=⟨_,rfl⟩;rw[hl]at hin kJ hwr⊢;simp only[hl]at hpa;have hsz:=wS l;have hsm:∀c∈l,c<256:=fun c hc=>by have:=(hin c hc).1;unfold wR at this;simp only[List.mem_cons,List.not_mem_nil,or_false]at this;omega
 have hix0:∀(i c:Nat),l[i]? =some c->∀W,(Instr.index 9 (.string (lets l)) (.int .i64 i)).run Tryz.prog W=.ok (.int .u8 c) W:=fun i c hc W=>by obtain⟨hi,e⟩:=Cm hsm hc;rw[run_index_string W 9 (lets l) .i64 i (by rfl),dif_pos ⟨by omega,by omega⟩];simp only[Int.toNat_natCast,e]
 have hpl:∀i,i<=l.length->(put kn++(l.take i).flatMap (bT x)).length+200<=100000:=fun i hi=>by
  have h1:=oW (bT x) (l.take i) 112 (fun c hc=>JC ha (hin c (List.mem_of_mem_take hc)).1 (hwr c (List.mem_of_mem_take hc)));have h2:=dJ (n:=kn) (by omega);rw[lA0];have h3:(l.take i).length<=7:=by rw[List.length_take];omega
  have h4:(l.take i).length*112<=7*112:=Nat.mul_le_mul_right _ h3;omega
 obtain⟨p,hp⟩:∃p,lets l=p:=⟨_,rfl⟩;rw[hp]at hsz;simp only[hp]at hpa hix0;obtain⟨b1,hb1⟩:∃b,w.heap.size=b:=⟨_,rfl⟩;rw[hb1]at hl0 q0 hn0;have jO:=ah hck;have TE:=ah hpa;have KL:=ah hix0;have sH:=ah hsz;have wW:=ah hin;have HPL:=ah hpl;have sO:=ah kJ;have aS:=ah hk0;have dZ:=ah hn0;have HS:=ah (And.intro h ha);have Df:=ah (And.intro hkn hkr);have HB1:=ah hb1;obtain⟨cs,hcs⟩:∃cs,(au x).toArray=cs:=⟨_,rfl⟩;have dV:=ah hcs;unfold aK at jO⊢;rw[hcs]at hW0 hl0 jO⊢;clear hck hpa hix0 hsz hsm hin hpl hk0 hn0 hmr hpm kJ hwr hl hp h ha hkn hcs hkr;go_enter Tryz.func78,Tryz.ntmps78;go_wp2_with fail;clear hW0 hl0 hb1 q0;refine jO.out.mono ?_;rintro e w2 ⟨rfl,hk2⟩;obtain⟨W3,hW3⟩:∃W3,w2.alloc (.cells #[.string ⟨#[]⟩,.int .i64 0] 194)=W3:=⟨_,rfl⟩;obtain⟨g,hg⟩:∃g,w2.heap.size=g:=⟨_,rfl⟩;have hw3:lD W3 g []:=by rw[<-hW3,<-hg];exact Has.new _ _ _
 have hk3:Kept aj w2 W3:=by rw[<-hW3];(repeat'(first|(with_reducible first|exact ay|apply aA|apply aB|apply aC|apply aF)|(right;simp;done)))
 have hn3:=dZ.out.kept (hk2.then hk3) (fun z=>z);have q0:W3.cell? ⟨b1,0,none⟩=some (.int .i64 (kn:Int)):=by rw[<-Df.out.1];exact hn3.cell 0
 have hgb:b1<g/\w.heap.size<=g:=by have h1:=dZ.out.lt;have h2:=hk2.size;have h3:=aS.out.size;omega
 have hkk:=aS.out.then (hk2.then hk3);have hnum:=tJ W3 g [] kn (by have:=Df.out.2;omega) hw3 (by simp);have uq:=ah hnum;have JR:=ah hn3;have HKK:=ah hkk;have zS:=ah hgb;clear hk2 hw3 hk3 hn3 hkk hnum hgb;go_wp2_with fail;clear hW3 hg q0;refine uq.out.mono ?_;rintro e w4 ⟨rfl,hw4,hk4⟩;have hn4:=JR.out.kept hk4 (by have:=zS.out;omega);have q0:w4.cell? ⟨b1,0,none⟩=some (.int .i64 (kn:Int)):=by rw[<-Df.out.1];exact hn4.cell 0
 have jo:=ah hw4;have tZ:=ah hn4;have iU:=ah (HKK.out.trans hk4 (fun k hk=> .inr (by have:=zS.out;omega)));clear hw4 hk4 hn4 JR HKK uq;go_wp2_with fail;clear q0;refine(TE.out w4).mono ?_;rintro e w5 ⟨rfl,hk5⟩;have uP:=ah (jo.out.kept hk5 (fun z=>z));have NG:=ah (tZ.out.kept hk5 (fun z=>z));have dK:=ah (iU.out.then hk5);clear hk5 jo tZ iU;go_wp2_with fail;go_loopw [7] (fun v7 wr=>∃i:Nat,i<=l.length/\v7=.int .i64 i/\lD wr g (put kn++(l.take i).flatMap (bT x))/\Has wr b1 63 (au x).toArray/\Kept aj w wr) (fun v7 _=>l.length-(intOf v7).toNat)
 case atStart=>exact⟨0,Nat.zero_le _,rfl,by rw[List.take_zero,List.flatMap_nil,List.append_nil];exact uP.out,NG.out,dK.out⟩
 case round=>
  obtain⟨i,hi,rfl,hwt,hmm,hk⟩:=hrel;clear uP NG dK;have hsz:=sH.out;by_cases hil:i<l.length
  ·obtain⟨c,hc⟩:∃c,l[i]? =some c:=⟨_,lB0 hil⟩;have g1:(i:Int)<(p.size:Int):=by omega
   have hix:=KL.out i c hc;have hcm:=lC0 hc;have hcc:=fun W (hW:Kept aj wr W)=>aax (x:=x) (hwt.kept hW (fun z=>z)) (HPL.out i hi) (HS.out.1.kept (hk.then hW)) HS.out.2 (wW.out c hcm).1 (fun e=>Df.out.1.trans ((wW.out c hcm).2 e));have hS:∀W,Kept aj wr W->fD W ⟨b1,0,none⟩/\eX W ⟨b1,0,none⟩=cs:=fun W hW=>by have h9:=dD (hmm.kept hW (fun z=>z));rw[dV.out]at h9;exact h9
   have hci:l[i]=c:=by rw[lB0 hil]at hc;exact Option.some.inj hc
   have htk:l.take (i+1)=l.take i++[c]:=by rw[List.take_succ_eq_append_getElem hil,hci]
   have hfl:put kn++(l.take (i+1)).flatMap (bT x)=put kn++(l.take i).flatMap (bT x)++bT x c:=by rw[htk,List.flatMap_append];simp
   have hS2:∀W,Kept (fun k=>k=g) wr W->fD W ⟨b1,0,none⟩/\eX W ⟨b1,0,none⟩=cs:=fun W hW=>by have h9:=dD (hmm.kept hW (by have:=zS.out;omega));rw[dV.out]at h9;exact h9
   unfold aK at hcc;rw[dV.out]at hcc;have Gz:=ah hcc;have U4:=ah hix;have qI:=ah hS;have HS2:=ah hS2;have wM:=ah hfl;have HM:=ah hmm;have HK:=ah hk;obtain⟨s1,s2⟩:=hS wr (Kept.refl _ _);clear hc hcc hsz hS hS2 hci htk hfl hmm hk hwt hcm;go_wp2
   go_region_held3 (fun W=>fD W ⟨b1,0,none⟩/\eX W ⟨b1,0,none⟩=cs) (first|with_reducible exact⟨s1,s2⟩|with_reducible exact y5|with_reducible exact hix _|exact qI.out _ (by(repeat'(first|(with_reducible first|exact ay|apply aA|apply aB|apply aC|apply aF)|(right;simp;done)))))
    (first|(go_at_call 120;refine(Gz.out _ (by(repeat'(first|(with_reducible first|exact ay|apply aA|apply aB|apply aC|apply aF)|(right;simp;done))))).mono ?_;rintro e w6 ⟨rfl,hw6,hk6⟩;have V7:Kept (fun k=>k=g) wr w6:=(Kept.trans (F:=fun k=>k=g) (Kept.Lh (by(repeat'(first|(with_reducible first|exact ay|apply aA|apply aB|apply aC|apply aF)|(right;simp;done))))) hk6 (fun _ z=> .inl z));have y5:=HS2.out w6 V7;have qR:=ah hw6;have eu:=ah V7;clear hw6 hk6 V7))
   all_goals
    have vV:=HM.out.kept eu.out (by have:=zS.out;omega)
    have aay:=HK.out.trans eu.out (fun k hk=> .inr (by have:=zS.out;omega))
    have vW:=ah vV;have abL:=ah aay
    have kJ:=sO.out
    clear vV aay
    go_wp2
    go_roundw
    case rel=>exact⟨i+1,by omega,by go_num,by rw[wM.out];exact qR.out,vW.out,abL.out⟩
    case measure=>simp[intOf];omega
  ·have hie:i=l.length:=by omega
   have g1:¬(i:Int)<(p.size:Int):=by omega
   rw[hie,List.take_length]at hwt;have hdn:=F5 wr g _ hwt;have qE:=ah hdn;have HK:=ah hk;clear hsz hdn hwt hmm hk hie;go_wp2_with fail;refine qE.out.mono ?_;rintro e w7 ⟨rfl,rfl⟩;go_wp2;go_ret2;exact⟨rfl,HK.out⟩

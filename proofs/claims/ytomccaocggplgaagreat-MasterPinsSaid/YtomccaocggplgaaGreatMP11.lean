/- Part 12. -/
import Derived.Test.YtomccaocggplgaaGreatMP10
import Derived.Lib.AppendZerosOnto
set_option linter.unusedSimpArgs false
set_option linter.unusedVariables false
set_option maxHeartbeats 32000000
set_option maxRecDepth 100000
namespace Go.Proofs.YtomccaocggplgaaGreat
open Go.RowKit Go.Shelf Go.Maps
namespace aJ
theorem aec(w:World)(A B:Option Addr)(c d n n':Nat)(l l':List Mem)(hn:n=l.length)(hn':n'=l'.length)(hl:Src w 2 A l.length (aU l))(hl':Src w 2 B l'.length (aU l'))(hlen:l.length<=1000000)(hlen':l'.length<=1000000):
  Calls Tryz.prog 180 #[.slice A n c,.slice B n' d] w fun e w'=>e=.returned (.bool (DN l l'))/\Kept aj w w':=by
 subst hn;subst hn';have HL:=ah hl;clear hl;have HL':=ah hl';clear hl';by_cases h3:l.length=l'.length;rotate_left
 ·have b1:((l.length:Int)==(l'.length:Int))=false:=by rw[beq_eq_false_iff_ne];omega
  have b2:((l.length:Int) !=(l'.length:Int))=true:=by rw[bne_iff_ne];omega
  rw[aea h3];clear h3;go_enter Tryz.func180,Tryz.ntmps180;go_wp2;go_ret;exact⟨rfl,Kept.refl _ _⟩
 rw[<-h3]at HL'⊢;have H3:=ah h3;clear h3;go_enter Tryz.func180,Tryz.ntmps180;go_wp2_with fail;go_loopw [13] (fun v13 wr=>∃i:Nat,i<=l.length/\v13=.int .i64 i/\Kept aj w wr/\DN l l'=DN (l.drop i) (l'.drop i)) (fun v13 _=>l.length-(intOf v13).toNat)
 case atStart=>exact⟨0,Nat.zero_le _,rfl,Kept.refl _ _,rfl⟩
 case round=>
  obtain⟨i,hi,rfl,hk,he⟩:=hrel;have HK:=ah hk;clear hk;have HE:=ah he;clear he;by_cases hil:i<l.length
  ·obtain⟨m,hm⟩:∃m,l[i]? =some m:=⟨_,List.getElem?_eq_getElem hil⟩;obtain⟨q,hq⟩:∃q,l'[i]? =some q:=⟨_,List.getElem?_eq_getElem (by have:=H3.out;omega)⟩;obtain⟨ad,hA,had,d0,d1⟩:=jr (HL.out.kept HK.out (fun _ _ x=>x)) (by omega) i m hm;obtain⟨bd,hB,hbd,f0,f1⟩:=jr (HL'.out.kept HK.out (fun _ _ x=>x)) (by omega) i q hq;subst hA;subst hB;have hs:=aaU hm hq;have hneq:=Rl m q;obtain⟨b,hb⟩:∃b:Bool,b=decide (m=q):=⟨_,rfl⟩;have hb':decide (m≠q)= !b:=by rw[hb];simp
   rw[hb']at hneq;rw[<-hb]at hs;have HS:=ah hs;clear hs hm hq hb hb';obtain⟨m1,m2⟩:=m;obtain⟨q1,q2⟩:=q;unfold jH at hneq;dsimp only at d0 d1 f0 f1 hneq;cases b
   ·go_wp2_with fail;go_quiet (fail);go_wp2;go_ret;exact⟨by rw[HE.out,HS.out];rfl,HK.out.drewN _⟩
   ·go_wp2_with fail;go_quiet (fail);go_wp2;go_roundw
    case rel=>exact⟨i+1,by omega,by go_num,HK.out.drewN _,by rw[HE.out,HS.out];rfl⟩
    case measure=>simp[intOf];omega
  ·obtain rfl:i=l.length:=by omega
   have hr:DN l l'=true:=by rw[HE.out,List.drop_length,H3.out,List.drop_length];rfl
   have HR:=ah hr;clear hr;go_wp2;go_ret;exact⟨by rw[HR.out];rfl,HK.out⟩
def I64(k:Int):Prop:=(Lit.int .i64 k).wf=true
theorem kE:Keyed Tryz.prog 3:=int_keyed Tryz.underlying3
theorem qI{k:Int}(h:I64 k):keyOf Tryz.prog 3 (.int .i64 k)=some (.int .i64 k):=keyOf_int_mk Tryz.underlying3 h
def bT(w:World)(b n:Nat)(s:Int->Bool):Prop:=
 ∃D:DataW Unit,w.ownsMap Tryz.prog 3 (plainElem Tryz.prog 4) b n D/\∀k,I64 k->D.atKey (.int .i64 k) (.lit (.bool false))=.lit (.bool (s k))
theorem bT.lt{w:World}{b n:Nat}{s:Int->Bool}(h:bT w b n s):b<w.heap.size:=by obtain⟨D,h,_⟩:=h;exact h.lt
theorem bT.kept{F:Nat->Prop}{w w':World}{b n:Nat}{s:Int->Bool}(h:bT w b n s)(hk:Kept F w w')(hf:¬F b):bT w' b n s:=by obtain⟨D,ho,hD⟩:=h;have hlt:=ho.lt;obtain⟨es,clock,hb,hF,hs,e⟩:=ho;exact⟨D,⟨es,clock,(hk.block b hlt hf).trans hb,hF,hs,e⟩,hD⟩
theorem bT.made(w:World):bT (w.alloc (.map #[] 0)) w.heap.size 0 (fun _=>false):=
 ⟨_,World.ownsMap_made w _ _ _,fun k hk=>rfl⟩
theorem bT.look{w:World}{b n:Nat}{s:Int->Bool}(h:bT w b n s){k:Int}(hk:I64 k):
  (Instr.lookup 83 (.map (some b)) (.int .i64 k) false).run Tryz.prog w=.ok (.bool (s k)) w:=by
 obtain⟨D,ho,hD⟩:=h;obtain⟨v,ps,hrun,hv⟩:=ho.lookup kE Tryz.underlying83 (z:=.bool false) (by rfl) (zd:=.lit (.bool false)) (zp:=[]) (plainElem_bool Tryz.underlying4 false) (qI hk);rw[hD k hk]at hv;unfold plainElem at hv;rw[Tryz.underlying4]at hv;rw[hrun];cases v<;>simp at hv;rw[hv.1]
theorem bT.store{w:World}{b n:Nat}{s:Int->Bool}(h:bT w b n s)(hn:n<maxLen){x:Int}(hx:I64 x):
  ∃w',(Instr.mapUpdate 83 (.map (some b)) (.int .i64 x) (.bool true)).run Tryz.prog w=.ok () w'/\bT w' b (n+1) (fun y=>decide (y=x)||s y)/\Kept (fun i=>i=b) w w':=by
 obtain⟨D,ho,hD⟩:=h;obtain⟨w',hrun,ho',hg⟩:=ho.update kE Tryz.underlying83 hn (qI hx) (plainElem_bool Tryz.underlying4 true);refine⟨w',hrun,⟨_,ho',?_⟩,(Kept.refl _ _).grownBy hg fun i hi=>by injection hi with hi;exact .inl hi.symm⟩;intro y hy;have hm:IsMap D:=ho.isMap;have hl:WideAt.IsKeyLit (.int .i64 x):=by trivial
 by_cases e:y=x
 ·subst e;rw[atKey_put_same hm hl];simp
 ·have hne:(Lit.int .i64 y)≠ .int .i64 x:=fun h=>e (by injection h);rw[atKey_put_other hne,hD y hy];simp[e]
theorem bT.ext{w:World}{b n:Nat}{s s':Int->Bool}(h:bT w b n s)(e:∀k,s k=s' k):bT w b n s':=by obtain rfl:s=s':=funext e;exact h
theorem bT.ne{w:World}{b n g:Nat}{s:Int->Bool}{t:TypeId}{cs:Array Value}(h:bT w b n s)(hg:Has w g t cs):b≠g:=by rintro rfl;obtain⟨D,⟨es,clock,hb,_⟩,_⟩:=h;unfold Has at hg;rw[hg]at hb;cases hb
theorem set_any(w:World)(A:Option Addr)(c:Nat)(l:List Int)(hl:Src w 1 A l.length (ints l))(hlen:l.length<=1000000)(hi64:∀x∈l,I64 x):
  Calls Tryz.prog 174 #[.slice A l.length c] w fun e w'=>(∃b,e=.returned (.map (some b))/\bT w' b l.length (inB l)/\w.heap.size<=b)/\Kept aj w w':=by
 have HL:=ah hl;clear hl;have HI:=ah hi64;clear hi64;have HM:=ah (bT.made w);have hmm:= @run_makeMap Tryz.prog;go_enter Tryz.func174,Tryz.ntmps174;go_wp2_with fail;go_loopw [9] (fun v9 wr=>∃i:Nat,i<=l.length/\v9=.int .i64 i/\bT wr w.heap.size i (inB (l.take i))/\Kept aj w wr) (fun v9 _=>l.length-(intOf v9).toNat)
 case atStart=>exact⟨0,Nat.zero_le _,rfl,HM.out.ext (fun k=>rfl),(Kept.refl _ _).alloc _⟩
 case round=>
  obtain⟨i,hi,rfl,hs,hk⟩:=hrel;have hsz:=hs.lt;have HK:=ah hk;clear hk;by_cases hil:i<l.length
  ·obtain⟨x,hx⟩:∃x,l[i]? =some x:=⟨_,List.getElem?_eq_getElem hil⟩;obtain⟨ad,hA,had,d0⟩:=qZ (HL.out.kept HK.out (fun _ _ x=>x)) (by omega) i x hx;subst hA;obtain⟨w2,hst,hs2,hk2⟩:=hs.store (by unfold maxLen;omega) (HI.out x (List.mem_of_getElem? hx))
   have hs3:=hs2.ext (s':=inB (l.take (i+1))) (fun k=>by unfold inB;rw[take_snoc hx];simp only[List.contains_append];by_cases e:k=x<;>simp[e])
   have hk3:Kept aj w w2:=HK.out.trans hk2 (fun k e=> .inr (by omega));have jF:=ah hs3;clear hs3 hs2 hs hk2 hx;have bu:=ah hk3;clear hk3;go_wp2;go_roundw
   case rel=>exact⟨i+1,by omega,by go_num,jF.out,bu.out⟩
   case measure=>simp[intOf];omega
  ·obtain rfl:i=l.length:=by omega
   rw[List.take_length]at hs;have HS:=ah hs;clear hs;go_wp2;go_ret;exact⟨⟨_,rfl,HS.out,Nat.le_refl _⟩,HK.out⟩
theorem UU(W:World)(B1 B2 b1 b2 n1 n2:Nat)(g t:List Int)(x:Mem)(hx:I64 x.1)(h1:Has W B1 83 #[.map (some b1)])(h2:Has W B2 83 #[.map (some b2)])
  (s1:bT W b1 n1 (inB g)) (s2:bT W b2 n2 (inB t)):
  Calls Tryz.prog 176 #[jH x,.pointer (some ⟨B1,0,none⟩),.pointer (some ⟨B2,0,none⟩)] W fun e w'=>e=.returned (.bool (isFirst g t x))/\Kept aj W w':=by
 have hlt1:=h1.lt;have hlt2:=h2.lt;have hne1:B1≠W.heap.size:=by omega
 have hne2:B2≠W.heap.size:=by omega
 have c1:∀o,(W.alloc o).cell? ⟨B1,0,none⟩=some (.map (some b1)):=fun o=>(h1.alloc o).cell 0;have c2:∀o,(W.alloc o).cell? ⟨B2,0,none⟩=some (.map (some b2)):=fun o=>(h2.alloc o).cell 0;have l1:=fun o=>(s1.kept ((Kept.refl aj W).alloc o) (fun x=>x)).look hx;have l2:=fun o=>(s2.kept ((Kept.refl aj W).alloc o) (fun x=>x)).look hx;have hf:=UD g t x;obtain⟨i1,hi1⟩:∃b,inB g x.1=b:=⟨_,rfl⟩;obtain⟨i2,hi2⟩:∃b,inB t x.1=b:=⟨_,rfl⟩;rw[hi1]at l1 hf;rw[hi2]at l2 hf;rw[hf];clear h1 h2 s1 s2 hlt1 hlt2 hf hi1 hi2 hx;obtain⟨x1,x2⟩:=x;unfold jH;dsimp only at l1 l2⊢;cases i1<;>cases i2
 all_goals
  go_enter Tryz.func176,Tryz.ntmps176
  go_wp2
  go_ret
  exact⟨rfl,(Kept.refl _ _).alloc _⟩
theorem XQ(W:World)(B1 B2 b1 b2 n1 n2:Nat)(g t:List Int)(x:Mem)(hx:I64 x.1)(h1:Has W B1 83 #[.map (some b1)])(h2:Has W B2 83 #[.map (some b2)])
  (s1:bT W b1 n1 (inB g)) (s2:bT W b2 n2 (inB t)):
  Calls Tryz.prog 177 #[jH x,.pointer (some ⟨B1,0,none⟩),.pointer (some ⟨B2,0,none⟩)] W fun e w'=>e=.returned (.bool (wZ g t x))/\Kept aj W w':=by
 have hlt1:=h1.lt;have hlt2:=h2.lt;have hne1:B1≠W.heap.size:=by omega
 have hne2:B2≠W.heap.size:=by omega
 have c1:∀o,(W.alloc o).cell? ⟨B1,0,none⟩=some (.map (some b1)):=fun o=>(h1.alloc o).cell 0;have c2:∀o,(W.alloc o).cell? ⟨B2,0,none⟩=some (.map (some b2)):=fun o=>(h2.alloc o).cell 0;have l1:=fun o=>(s1.kept ((Kept.refl aj W).alloc o) (fun x=>x)).look hx;have l2:=fun o=>(s2.kept ((Kept.refl aj W).alloc o) (fun x=>x)).look hx;have hf:=Xl g t x;obtain⟨i1,hi1⟩:∃b,inB g x.1=b:=⟨_,rfl⟩;obtain⟨i2,hi2⟩:∃b,inB t x.1=b:=⟨_,rfl⟩;rw[hi1]at l1 hf;rw[hi2]at l2 hf;rw[hf];clear h1 h2 s1 s2 hlt1 hlt2 hf hi1 hi2 hx;obtain⟨x1,x2⟩:=x;unfold jH;dsimp only at l1 l2⊢;cases i1<;>cases i2
 all_goals
  go_enter Tryz.func177,Tryz.ntmps177
  go_wp2
  go_ret
  exact⟨rfl,(Kept.refl _ _).alloc _⟩
theorem pick_any(w:World)(A:Option Addr)(c:Nat)(l:List Mem)(p:Mem->Bool)(g:Nat)(lb:Array Value)(hl:Src w 2 A l.length (aU l))(hlen:l.length<=1000)
  (eg:∀args w,(callFunc g args).run Tryz.prog w=.ok (.enter g args) w) (hp:FP w g lb l p):
  Calls Tryz.prog 175 #[.slice A l.length c,.func (.func g) #[] lb] w fun e w'=>(∃O n oc,e=.returned (.slice O n oc)/\dw w.heap.size w' O n oc (l.filter p))/\Kept aj w w':=by
 have HL:=ah hl;clear hl;have HP:=ah hp;clear hp;go_enter Tryz.func175,Tryz.ntmps175;go_wp2_with fail;go_loopw [5,10] (fun v5 v10 wr=>∃(i:Nat) (O:Option Addr) (n oc:Nat),i<=l.length/\v10=.int .i64 i/\v5=.slice O n oc/\dw w.heap.size wr O n oc ((l.take i).filter p)/\Kept aj w wr) (fun _ v10 _=>l.length-(intOf v10).toNat)
 case atStart=>exact⟨0,none,0,0,Nat.zero_le _,rfl,rfl,dw.nil _ _,Kept.refl _ _⟩
 case round=>
  obtain⟨i,O,n,oc,hi,rfl,rfl,hrow,hk⟩:=hrel;have aiJ:n<=1000:=by have h0:=hrow.1;have:=List.length_filter_le p (l.take i);have:=List.length_take_le i l;omega
  have bZ:=ah hrow;clear hrow;have HK:=ah hk;clear hk;by_cases hil:i<l.length
  ·obtain⟨m,hm⟩:∃m,l[i]? =some m:=⟨_,List.getElem?_eq_getElem hil⟩;obtain⟨ad,hA,had,d0,d1⟩:=jr (HL.out.kept HK.out (fun _ _ x=>x)) (by omega) i m hm;subst hA;obtain⟨wo,hwo⟩:∃wo:World,wo=wr:=⟨_,rfl⟩;subst hwo;have hcall:=fun o=>HP.out (wo.alloc o) m (HK.out.alloc o) (List.mem_of_getElem? hm);have hfy:=fun h=>UC (p:=p) hm h;have hfn:=fun h=>Xk (p:=p) hm h;have hnm:=Has.new wo 56 #[.int .i64 m.1,.int .i64 m.2];obtain⟨b,hb⟩:∃b,p m=b:=⟨_,rfl⟩;rw[hb]at hcall hfy hfn;clear hm hb;obtain⟨m1,m2⟩:=m;unfold jH at hcall;dsimp only at d0 d1 hcall hnm;have HC:=ah hcall;clear hcall;have TB:=ah hnm;clear hnm;have hS:Hid (n+1<=maxLen):=ah (by unfold maxLen;omega);have hS2:Hid ((n+1)*16<=140737488355328):=ah (by omega);cases b
   ·have hf0:=hfn rfl;have HF:=ah hf0;clear hf0 hfn hfy;go_wp2_with fail;refine(HC.out _).mono ?_;rintro e w2 ⟨rfl,hk2⟩;have hk3:=(HK.out.alloc _).then hk2;have hr3:=bZ.out.kept (((Kept.refl _ _).alloc _).then hk2);have bu:=ah hk3;clear hk3 hk2;have HR3:=ah hr3;clear hr3;go_wp2;go_roundw
    case rel=>exact⟨i+1,O,n,oc,by omega,by go_num,rfl,by rw[HF.out];exact HR3.out,bu.out⟩
    case measure=>simp[intOf];omega
   ·have hf0:=hfy rfl;have HF:=ah hf0;clear hf0 hfn hfy;go_wp2_with fail;refine(HC.out _).mono ?_;rintro e w2 ⟨rfl,hk2⟩;have hk3:=(HK.out.alloc _).then hk2;have hr3:=bZ.out.kept (((Kept.refl _ _).alloc _).then hk2);have pP:=TB.out.kept hk2 (fun x=>x);have c0:w2.cell? ⟨wo.heap.size,0,none⟩=some (.int .i64 m1):=pP.cell 0;have c1:w2.cell? ⟨wo.heap.size,1,none⟩=some (.int .i64 m2):=pP.cell 1;have bu:=ah hk3;clear hk3 hk2 pP;have HR3:=ah hr3;clear hr3;go_wp2_with (at_builtin;refine aN oH (.tmp 17) (.tmp 19) rfl rfl (Value.slice O n oc) rfl ((HR3.out.kept ((Kept.refl _ _).alloc _)).2.1) 1 rfl (Src.dA (m:=1) (cs:=#[.int .i64 m1,.int .i64 m2]) (Has.bK _ 56 _ (by simp)) rfl) (by intro u hu;simp at hu;rcases hu with rfl|rfl<;>rfl) hS.out hS2.out ?_;intro O3 DZ w9 ho3 hg3 zl);have Gv:=bu.out.size;have hn3:dw w.heap.size w9 O3 (n+1) DZ ((l.take i).filter p++[(m1,m2)]):=(HR3.out.kept ((Kept.refl _ _).alloc _)).snoc (by simp;omega) ho3 zl;have hk9:Kept aj w w9:=(bu.out.alloc _).grown hg3 (fun k hk=> .inr (HR3.out.2.2 k hk));rw[<-HF.out]at hn3;clear ho3 hg3 zl;have mG:=ah hn3;clear hn3;have nH:=ah hk9;clear hk9;go_wp2;go_roundw
    case rel=>exact⟨i+1,O3,n+1,DZ,by omega,by go_num,rfl,mG.out,nH.out⟩
    case measure=>simp[intOf];omega
  ·obtain rfl:i=l.length:=by omega
   have hr:=bZ.out;rw[List.take_length]at hr;have HR:=ah hr;clear hr;go_wp2;go_ret;exact⟨⟨O,n,oc,rfl,HR.out⟩,HK.out⟩
end aJ
namespace aJ
theorem aed(w:World)(m:Mem):
  Calls Tryz.prog 234 #[jH m] w fun e w'=>e=.returned (.bool (decide (chk 1 [m]=0)))/\Kept aj w w':=by
 have hck:=fun(W:World) (g:Nat) (h:Has W g 56 #[.int .i64 m.1,.int .i64 m.2])=>check_any W 1 0 (some ⟨g,0,none⟩) 1 [m] (Src.dA (m:=1) h rfl) (by simp) (by simp) (by decide);obtain⟨r,hr⟩:∃r,chk 1 [m]=r:=⟨_,rfl⟩;rw[hr]at hck⊢;clear hr;have HC:=ah hck;clear hck;obtain⟨m1,m2⟩:=m;unfold jH;dsimp only at HC⊢;by_cases hz:r=0
 ·have hb:(r==0)=true:=by simpa using hz
  have hd:decide (r=0)=true:=by simpa using hz
  rw[hd];clear hz hd;go_enter Tryz.func234,Tryz.ntmps234;go_wp2_with fail;refine(HC.out _ _ (Has.bK _ _ _ (by simp))).mono ?_;rintro e w2 ⟨rfl,hk⟩;have hk2:=(((Kept.refl aj w).alloc _).alloc _).then hk;have HK:=ah hk2;clear hk2 hk;go_wp2;go_ret;exact⟨rfl,HK.out⟩
 ·have hb:(r==0)=false:=by simpa using hz
  have hd:decide (r=0)=false:=by simpa using hz
  rw[hd];clear hz hd;go_enter Tryz.func234,Tryz.ntmps234;go_wp2_with fail;refine(HC.out _ _ (Has.bK _ _ _ (by simp))).mono ?_;rintro e w2 ⟨rfl,hk⟩;have hk2:=(((Kept.refl aj w).alloc _).alloc _).then hk;have HK:=ah hk2;clear hk2 hk;go_wp2;go_ret;exact⟨rfl,HK.out⟩
theorem XR(W:World)(B:Nat)(m x:Mem)(hB:Has W B 56 #[.int .i64 m.1,.int .i64 m.2]):
  Calls Tryz.prog 233 #[jH x,.pointer (some ⟨B,0,none⟩)] W fun e w'=>e=.returned (.bool (decide (x.1=m.1)))/\Kept aj W w':=by
 have hlt:=hB.lt;have hne:B≠W.heap.size:=by omega
 obtain⟨x1,x2⟩:=x;obtain⟨m1,m2⟩:=m;have c0:∀o,(W.alloc o).cell? ⟨B,0,none⟩=some (.int .i64 m1):=fun o=>(hB.alloc o).cell 0;clear hB hlt;unfold jH;dsimp only;go_enter Tryz.func233,Tryz.ntmps233;go_wp2;go_ret;exact⟨by by_cases h:x1=m1<;>simp[h],(Kept.refl _ _).alloc _⟩
theorem aee:∀args w,(callFunc 233 args).run Tryz.prog w=.ok (.enter 233 args) w:=enters_of Tryz.func233 (by kernel_rfl) rfl
def RowOf(v:Value)(k:Nat):Prop:=v.ownBlock=some k
theorem abg(b:Nat)(w:World)(A A3:Option Addr)(n0 c0 c3:Nat)(l j:List Mem)(hrow:dw b w A n0 c0 l)(hb:b<=w.heap.size)(hj:Src w 2 A3 j.length (aU j))(hjr:0<j.length->∀ad,A3=some ad->¬RowOf (.slice A n0 c0) ad.block)
  (hl:l.length<=1000) (hjl:j.length<=1000):
  Calls Tryz.prog 178 #[.slice A n0 c0,.slice A3 j.length c3] w fun e w'=>(∃O n oc,e=.returned (.slice O n oc)/\dw b w' O n oc (fP l j))/\Kept (RowOf (.slice A n0 c0)) w w':=by
 have OQ:∀i,(fP l (j.take i)).length<=2000:=by
  intro i;have h1:∀(a:List Mem) (b:List Mem),(fP b a).length<=b.length+a.length:=by
   intro a;induction a with
   |nil=>intro b;simp[fP]
   |cons x a ih=>
    intro b;have h2:=ih (jR b x);have h3:(jR b x).length<=b.length+1:=by unfold jR;split<;>simp
    have h4:fP b (x::a)=fP (jR b x) a:=rfl;rw[h4,List.length_cons];omega
  have h2:=h1 (j.take i) l;have h3:=List.length_take_le' i j;exact Nat.le_trans h2 (by clear h1;omega)
 have HJL:=ah OQ;clear OQ;have HJ:=ah hj;clear hj;have HJR:=ah hjr;clear hjr;have ag3:=ah hrow;clear hrow;go_enter Tryz.func178,Tryz.ntmps178;go_wp2_with fail;go_loopw [0,10] (fun v0 v10 wr=>∃(i:Nat) (O:Option Addr) (n oc:Nat),i<=j.length/\v10=.int .i64 i/\v0=.slice O n oc/\dw b wr O n oc (fP l (j.take i))/\(∀k,RowOf (.slice O n oc) k->RowOf (.slice A n0 c0) k\/w.heap.size<=k)/\Kept (RowOf (.slice A n0 c0)) w wr) (fun _ v10 _=>j.length-(intOf v10).toNat)
 case atStart=>exact⟨0,A,n0,c0,Nat.zero_le _,rfl,rfl,ag3.out,(fun k h=> .inl h),Kept.refl _ _⟩
 case round=>
  obtain⟨i,O,n,oc,hi,rfl,rfl,hrow,hro,hk⟩:=hrel;have hsz:=hk.size;have adx:=HJL.out i;obtain⟨Y,hY⟩:∃Y,fP l (j.take i)=Y:=⟨_,rfl⟩;rw[hY]at hrow adx;have XT:=hrow.1;rw[<-XT]at adx;have bZ:=ah hrow;clear hrow;have XU:=ah hro;clear hro;have HK:=ah hk;clear hk;by_cases hil:i<j.length
  ·obtain⟨m,hm⟩:∃m,j[i]? =some m:=⟨_,List.getElem?_eq_getElem hil⟩;obtain⟨ad,hA,had,d0,d1⟩:=jr (HJ.out.kept HK.out (HJR.out (by omega))) (by omega) i m hm;subst hA;obtain⟨wo,hwo⟩:∃wo:World,wo=wr:=⟨_,rfl⟩;subst hwo;have hjs:fP l (j.take (i+1))=jR Y m:=by rw[take_snoc hm,Ov,hY]
   have hjo:jR Y m=if n<4/\chk 1 [m]=0/\yg (fun x=>decide (x.1=m.1)) Y=false then Y++[m]else Y:=by rw[XT];rfl
   rw[hjo]at hjs;clear hjo hY;have hmay:=fun W=>aed W m;have hnm:=Has.new wo 56 #[.int .i64 m.1,.int .i64 m.2]
   have hco:=fun W (hW:Kept aj (wo.alloc (.cells #[.int .i64 m.1,.int .i64 m.2] 56)) W)=>EC W O oc Y (fun x=>decide (x.1=m.1)) 233 #[.pointer (some ⟨wo.heap.size,0,none⟩)] ((bZ.out.kept (((Kept.refl aj wo).alloc _).then hW)).src) (by omega) aee
    (fun W' x hW' _=>XR W' wo.heap.size m x (hnm.kept (hW.then hW') (fun x=>x)))
   rw[<-XT]at hco;obtain⟨tb,htb⟩:∃tb,yg (fun x=>decide (x.1=m.1)) Y=tb:=⟨_,rfl⟩;obtain⟨ck,hck⟩:∃ck,chk 1 [m]=ck:=⟨_,rfl⟩;rw[htb]at hco hjs;rw[hck]at hmay hjs;clear htb hck hm XT;have ED:=ah hmay;clear hmay;have qR:=ah hco;clear hco;have HJS:=ah hjs;clear hjs;have TB:=ah hnm;clear hnm;obtain⟨m1,m2⟩:=m;dsimp only at d0 d1 ED qR TB;unfold jH at ED;dsimp only at ED;by_cases h4:n<4;rotate_left
   ·have hjn:fP l (j.take (i+1))=Y:=by rw[HJS.out,if_neg (fun h=>h4 h.1)]
    have OT:=ah hjn;clear hjn;have h4':¬(n:Int)<4:=by omega
    go_wp2;go_roundw
    case rel=>exact⟨i+1,O,n,oc,by omega,by go_num,rfl,by rw[OT.out];exact bZ.out.kept ((Kept.refl _ _).alloc _),XU.out,HK.out.alloc _⟩
    case measure=>simp[intOf];omega
   have h4':(n:Int)<4:=by omega
   by_cases hc:ck=0;rotate_left
   ·have hjn:fP l (j.take (i+1))=Y:=by rw[HJS.out,if_neg (fun h=>hc h.2.1)]
    have OT:=ah hjn;clear hjn;have hd:decide (ck=0)=false:=by simpa using hc
    rw[hd]at ED;clear hd hc;go_wp2_with fail;refine(ED.out _).mono ?_;rintro e w2 ⟨rfl,hk2⟩;have hk3:=(HK.out.alloc _).then (hk2.mono (fun i hi=>hi.elim));have hr3:=bZ.out.kept (((Kept.refl _ _).alloc _).then hk2);have bu:=ah hk3;clear hk3 hk2;have HR3:=ah hr3;clear hr3;go_wp2;go_roundw
    case rel=>exact⟨i+1,O,n,oc,by omega,by go_num,rfl,by rw[OT.out];exact HR3.out,XU.out,bu.out⟩
    case measure=>simp[intOf];omega
   have hd:decide (ck=0)=true:=by simpa using hc
   rw[hd]at ED;clear hd;cases tb;rotate_left
   ·have hjn:fP l (j.take (i+1))=Y:=by rw[HJS.out,if_neg (fun h=>by cases h.2.2)]
    have OT:=ah hjn;clear hjn hc;go_wp2_with fail;refine(ED.out _).mono ?_;rintro e w2 ⟨rfl,hk2⟩;have aV:=ah hk2;clear hk2;go_wp2_with fail;refine(qR.out _ aV.out).mono ?_;rintro e w3 ⟨rfl,hk2⟩;have hk4:=((HK.out.alloc _).then (aV.out.mono (fun i hi=>hi.elim))).then (hk2.mono (fun i hi=>hi.elim));have hr3:=bZ.out.kept ((((Kept.refl _ _).alloc _).then aV.out).then hk2);have bu:=ah hk4;clear hk4 hk2;have HR3:=ah hr3;clear hr3;go_wp2;go_roundw
    case rel=>exact⟨i+1,O,n,oc,by omega,by go_num,rfl,by rw[OT.out];exact HR3.out,XU.out,bu.out⟩
    case measure=>simp[intOf];omega
   have hjn:fP l (j.take (i+1))=Y++[(m1,m2)]:=by rw[HJS.out,if_pos ⟨h4,hc,rfl⟩]
   have OT:=ah hjn;clear hjn hc;have hS:Hid (n+1<=maxLen):=ah (by unfold maxLen;omega);have hS2:Hid ((n+1)*16<=140737488355328):=ah (by omega);go_wp2_with fail;refine(ED.out _).mono ?_;rintro e w2 ⟨rfl,hk2⟩;have aV:=ah hk2;clear hk2;go_wp2_with fail;refine(qR.out _ aV.out).mono ?_;rintro e w3 ⟨rfl,hk2⟩;have hk4:=((HK.out.alloc _).then (aV.out.mono (fun i hi=>hi.elim))).then (hk2.mono (fun i hi=>hi.elim));have hr3:=bZ.out.kept ((((Kept.refl _ _).alloc _).then aV.out).then hk2);have pP:=(TB.out.kept aV.out (fun x=>x)).kept hk2 (fun x=>x);have e0:w3.cell? ⟨wo.heap.size,0,none⟩=some (.int .i64 m1):=pP.cell 0;have e1:w3.cell? ⟨wo.heap.size,1,none⟩=some (.int .i64 m2):=pP.cell 1;have bu:=ah hk4;clear hk4 hk2 pP;have HR3:=ah hr3;clear hr3;go_wp2_with (at_builtin;refine aN oH (.tmp 28) (.tmp 30) rfl rfl (Value.slice O n oc) rfl ((HR3.out.kept ((Kept.refl _ _).alloc _)).2.1) 1 rfl (Src.dA (m:=1) (cs:=#[.int .i64 m1,.int .i64 m2]) (Has.bK _ 56 _ (by simp)) rfl) (by intro u hu;simp at hu;rcases hu with rfl|rfl<;>rfl) hS.out hS2.out ?_;intro O3 DZ w9 ho3 hg3 zl);have Gv:=bu.out.size;have hn3:dw b w9 O3 (n+1) DZ (Y++[(m1,m2)]):=(HR3.out.kept ((Kept.refl _ _).alloc _)).snoc (by simp;omega) ho3 zl;have hk9:Kept (RowOf (.slice A n0 c0)) w w9:=(bu.out.alloc _).grown hg3 (fun k hk=>XU.out k hk);have afp:∀k,RowOf (.slice O3 (n+1) DZ) k->RowOf (.slice A n0 c0) k\/w.heap.size<=k:=by
    intro k hk;unfold RowOf at hk;rcases zl with e|e
    ·exact XU.out k (e.symm.trans hk)
    ·rw[hk]at e;injection e with e;right;simp at e;omega
   rw[<-OT.out]at hn3;clear ho3 hg3 zl;have mG:=ah hn3;clear hn3;have nH:=ah hk9;clear hk9;have ahA:=ah afp;clear afp;go_wp2;go_roundw
   case rel=>exact⟨i+1,O3,n+1,DZ,by omega,by go_num,rfl,mG.out,ahA.out,nH.out⟩
   case measure=>simp[intOf];omega
  ·obtain rfl:i=j.length:=by omega
   rw[List.take_length]at hY;have HY:=ah hY;clear hY XT;go_wp2;go_ret;exact⟨⟨O,n,oc,rfl,by rw[HY.out];exact bZ.out⟩,HK.out⟩
theorem abh(w:World)(n:Nat)(hn:0<n)(hn2:n<=100000):
  Calls Tryz.prog 235 #[.slice none 0 0,.int .i64 n] w fun e w'=>(∃O oc,e=.returned (.slice O 0 oc)/\dw w.heap.size w' O 0 oc [])/\Kept aj w w':=by
 obtain⟨i0,hi,hz0,hz1,hz2⟩:=info_parts (show(Tryz.prog.info? 56).map (fun i=>(i.zero,i.size,i.bytes))=some (some (.agg #[.int .i64 0,.int .i64 0]),2,16) by kernel_rfl);have hG:=grownCap_ge w (0+n) 0 56;have hG2:=grownCap_le_maxLen w (0+n) 0 56 (by unfold maxLen;omega)
 have hrz:∀ty,(Builtin.append_ #[22,3] ty #[.slice none 0 0,.int .i64 n]).run Tryz.prog w=
   .ok (.slice (some ⟨w.heap.size,0,none⟩) n (grownCap w (0+n) 0 56)) (w.drew.alloc (.cells (#[]++Builtin.zeroCells #[.int .i64 0,.int .i64 0] n++Builtin.zeroCells #[.int .i64 0,.int .i64 0] (grownCap w (0+n) 0 56-(0+n))) 56)):=fun ty=>by
  have h:=Lib.run_append_grow_zeros w 22 3 ty 56 i0 (.agg #[.int .i64 0,.int .i64 0]) .i64 .i64 Tryz.underlying22 Tryz.underlying3 hi hz0 none 0 0 [] (run_firstCells_none w.drew i0.size 0 0 0) n (by omega) (by rw[hz1];decide) (by omega) (by omega) (by rw[hz2];omega)
   (by exact growslice_fits (by omega) (by rw[hz2];omega))
  rw[h];simp[Value.cells]
 obtain⟨G,hGe⟩:∃G,G=grownCap w (0+n) 0 56:=⟨_,rfl⟩;rw[<-hGe]at hrz hG hG2;have hnew:Has (w.alloc (.cells (Builtin.zeroCells #[.int .i64 0,.int .i64 0] n++Builtin.zeroCells #[.int .i64 0,.int .i64 0] (G-n)) 56)).drew w.heap.size 56 (Builtin.zeroCells #[.int .i64 0,.int .i64 0] n++Builtin.zeroCells #[.int .i64 0,.int .i64 0] (G-n)):=(Has.new w _ _).drew;have hrow:dw w.heap.size (w.alloc (.cells (Builtin.zeroCells #[.int .i64 0,.int .i64 0] n++Builtin.zeroCells #[.int .i64 0,.int .i64 0] (G-n)) 56)).drew (some ⟨w.heap.size,0,none⟩) 0 G []:=by refine⟨rfl,⟨rfl,.inr ⟨w.heap.size,G,_,rfl,Nat.zero_le _,hnew,Nat.zero_le _,hG2,?_,by simp[aU]⟩⟩,fun k hk=>by simp[Value.ownBlock]at hk;omega⟩;simp[Builtin.zeroCells];omega
 have bZ:=ah hrow;clear hrow hnew;have hG3:G<=9223372036854775807:=by unfold maxLen at hG2;omega
 have hnp:(0:Int)<n:=by omega
 clear hGe hi hz0 hz1 hz2 hG2;go_enter Tryz.func235,Tryz.ntmps235;go_wp2_with (at_builtin;refine Lib.wpList_append_run _ rfl _ _ _ _ rfl _ _ rfl rfl _ _ (hrz _) ?_);go_wp2;go_ret;exact⟨⟨_,_,rfl,bZ.out⟩,((Kept.refl _ _).alloc _).drew⟩
end aJ
namespace aJ
theorem dw.cat{b:Nat}{w w':World}{A A':Option Addr}{n c c' m:Nat}{l l2:List Mem}(h:dw b w A n c l)(hb:b<=w.heap.size)(hm:m=l2.length)
  (ho:w'.ownsRow 0 56 2 (.slice A' (n+m) c') (n+m) (aU l++aU l2))
  (ha:(Value.slice A' (n+m) c').ownBlock=(Value.slice A n c).ownBlock\/(Value.slice A' (n+m) c').ownBlock=some w.heap.size):dw b w' A' (n+m) c' (l++l2):=by
 refine⟨by rw[h.1,hm];simp,by rw[xX];exact ho,fun k hk=> ?_⟩;rcases ha with e|e
 ·exact h.2.2 k (e.symm.trans hk)
 ·rw[hk]at e;injection e with e;omega
theorem UW(w:World)(x:Nat)(A B:Option Addr)(n c m d:Nat)(l l2:List Mem)(hx:Has w x 22 #[.slice A n c,.slice B m d])(hn:n=l.length)(hm:m=l2.length)(hl:Src w 2 A l.length (aU l))(hl2:Src w 2 B l2.length (aU l2))
  (hpos:0<n) (hle:n+m<=5000):
  Calls Tryz.prog 179 #[.slice (some ⟨x,0,none⟩) 2 2] w fun e w'=>(∃O k oc,e=.returned (.slice O k oc)/\dw w.heap.size w' O k oc (l++l2))/\Kept aj w w':=by
 rw[<-hn]at hl;rw[<-hm]at hl2;have x0:w.cell? ⟨x,0,none⟩=some (.slice A n c):=hx.cell 0;have x1:w.cell? ⟨x,1,none⟩=some (.slice B m d):=hx.cell 1;have HX:=ah hx;clear hx;have HL:=ah hl;clear hl;have HL2:=ah hl2;clear hl2;have HN:=ah hn;clear hn;have HM:=ah hm;clear hm;go_enter Tryz.func179,Tryz.ntmps179;go_wp2_with fail;go_loopg [3,5,11] 3 (fun gg v3 _ v11 wr=>w=wr/\((v11=.int .i64 0/\v3=.int .i64 0/\2<=gg)\/(v11=.int .i64 1/\v3=.int .i64 n/\1<=gg)\/(v11=.int .i64 2/\v3=.int .i64 (n+m:Nat))))
 case atStart=>exact⟨rfl,.inl ⟨rfl,rfl,by decide⟩⟩
 case round=>
  obtain⟨rfl,⟨rfl,rfl,hg⟩|⟨rfl,rfl,hg⟩|⟨rfl,rfl⟩⟩:=hrel
  ·go_wp2;go_roundg 1
   case measure=>omega
   case rel=>exact⟨rfl,.inr (.inl ⟨rfl,rfl,by decide⟩)⟩
  ·go_wp2;go_roundg 0
   case measure=>omega
   case rel=>exact⟨rfl,.inr (.inr ⟨rfl,by go_num⟩)⟩
  ·go_wp2_with fail;refine(abh _ (n+m) (by omega) (by omega)).mono ?_;rintro e w2 ⟨⟨O,oc,rfl,hrow⟩,hk⟩;have hx2:=HX.out.kept hk (fun x=>x);have HX2:=ah hx2;clear hx2;have bZ:=ah hrow;clear hrow;have HK:=ah hk;clear hk;clear x0 x1;have hS1:Hid (0+n<=maxLen):=ah (by unfold maxLen;omega);have hS2:Hid ((0+n)*16<=140737488355328):=ah (by omega);have hS3:Hid (n+m<=maxLen):=ah (by unfold maxLen;omega);have hS4:Hid ((n+m)*16<=140737488355328):=ah (by omega);go_wp2_with fail;go_loopg [6,27] 3 (fun gg v6 v27 wr=>∃(O:Option Addr) (k oc:Nat),v6=.slice O k oc/\Kept aj w wr/\((v27=.int .i64 0/\k=0/\dw w.heap.size wr O k oc []/\2<=gg)\/(v27=.int .i64 1/\k=n/\dw w.heap.size wr O k oc l/\1<=gg)\/(v27=.int .i64 2/\dw w.heap.size wr O k oc (l++l2))))
   case atStart=>exact⟨O,0,oc,rfl,HK.out,.inl ⟨rfl,rfl,bZ.out,by decide⟩⟩
   case round=>
    obtain⟨O,k,oc,rfl,hk,⟨rfl,rfl,hrow,hg⟩|⟨rfl,rfl,hrow,hg⟩|⟨rfl,hrow⟩⟩:=hrel
    ·have hx3:=HX.out.kept hk (fun x=>x);have x0:wr.cell? ⟨x,0,none⟩=some (.slice A n c):=hx3.cell 0;have qT:=ah hrow;clear hrow;have bu:=ah hk;clear hk hx3;go_wp2_with (at_builtin;refine aN oH (.tmp 31) (.tmp 32) rfl rfl (Value.slice O 0 oc) rfl qT.out.2.1 c rfl (HL.out.kept bu.out (fun _ _ x=>x)) (Tn l) hS1.out hS2.out ?_;intro O3 DZ w9 ho3 hg3 zl);have Gv:=bu.out.size;have hn3:dw w.heap.size w9 O3 (0+n) DZ ([]++l):=qT.out.cat (by omega) HN.out (by simpa [aU]using ho3) zl;have hk9:Kept aj w w9:=bu.out.grown hg3 (fun k hk=> .inr (qT.out.2.2 k hk));simp only[Nat.zero_add,List.nil_append]at hn3⊢;clear ho3 hg3 zl;have mG:=ah hn3;clear hn3;have nH:=ah hk9;clear hk9;go_wp2;go_roundg 1
     case measure=>omega
     case rel=>exact⟨O3,n,DZ,rfl,nH.out,.inr (.inl ⟨rfl,rfl,mG.out,by decide⟩)⟩
    ·have hx3:=HX.out.kept hk (fun x=>x);have x1:wr.cell? ⟨x,1,none⟩=some (.slice B m d):=hx3.cell 1;have qT:=ah hrow;clear hrow;have bu:=ah hk;clear hk hx3;go_wp2_with (at_builtin;refine aN oH (.tmp 31) (.tmp 32) rfl rfl (Value.slice O k oc) rfl qT.out.2.1 d rfl (HL2.out.kept bu.out (fun _ _ x=>x)) (Tn l2) hS3.out hS4.out ?_;intro O3 DZ w9 ho3 hg3 zl);have Gv:=bu.out.size;have hn3:dw w.heap.size w9 O3 (k+m) DZ (l++l2):=qT.out.cat (by omega) HM.out ho3 zl;have hk9:Kept aj w w9:=bu.out.grown hg3 (fun k hk=> .inr (qT.out.2.2 k hk));clear ho3 hg3 zl;have mG:=ah hn3;clear hn3;have nH:=ah hk9;clear hk9;go_wp2;go_roundg 0
     case measure=>omega
     case rel=>exact⟨O3,k+m,DZ,rfl,nH.out,.inr (.inr ⟨rfl,mG.out⟩)⟩
    ·have qT:=ah hrow;clear hrow;have bu:=ah hk;clear hk;go_wp2;go_ret;exact⟨⟨O,k,oc,rfl,qT.out⟩,bu.out⟩
theorem XV{w:World}{B:Nat}{A:Option Addr}{n c:Nat}{ss:List Int}(h:fK B w A n c ss)(hsz:ss.length<4611686018427387904):
  Calls Tryz.prog 58 #[.slice A n c] w fun e w'=>e=.returned (.tuple #[])/\fK B w' A n c (ss.mergeSort fun x y=>decide (x<=y))/\Kept (RowOf (.slice A n c)) w w':=by
 obtain⟨rfl,h,hb⟩:=h;have h':=h;rcases h.2 with⟨hv,h0⟩|⟨g,cap,cur,hv,hb',hg,h1,h2,h3,h4⟩
 ·have hs:ss=[]:=List.eq_nil_of_length_eq_zero h0;subst hs;refine(XL.slices_Sort_int_none A c w).mono ?_;rintro e w' ⟨rfl,rfl⟩;exact⟨rfl,⟨by simp,by simpa using h',hb⟩,Kept.refl _ _⟩
 ·injection hv with e1 e2 e3;subst e1;subst e3;refine(XL.slices_Sort_int g 0 c ss w (holds_of_blockI hg (by simpa using h4)) (Array.getElem?_eq_some_iff.1 hg).1 hsz).mono ?_;rintro e w' ⟨rfl,n,os,rfl⟩;exact⟨rfl,⟨by simp,ownsRow_sortedI (by simp) hb' hg h1 h2 h3,hb⟩,(Kept.refl _ _).grownBy (grownBy_sortedI _) (fun k hk=> .inl hk)⟩
end aJ
end Go.Proofs.YtomccaocggplgaaGreat
namespace Go.Proofs.YtomccaocggplgaaGreat
open Go.RowKit
namespace dh
open aJ Vn Mst jQ
theorem rows_apart{w:World}{e1 e2:TypeId}{s1 s2 n1 n2:Nat}{v1 v2:Value}{x1 x2:List Value}(h1:w.ownsRow 0 e1 s1 v1 n1 x1)(h2:w.ownsRow 0 e2 s2 v2 n2 x2)(hne:e2≠e1):∀g,v1.ownBlock=some g->¬v2.ownBlock=some g:=fun g hg hg2=>by obtain⟨cs,hh⟩:=jT h1 hg;exact own_ne h2 hh hne hg2
theorem aF.beside{e e2:TypeId}{size size2 n c n2 c2 B:Nat}{w w1 w':World}{A A2:Option Addr}{xs xs2:List Value}(h:aF e size B w A n c xs)(hk:Kept aj w w1)(h2:aF e2 size2 B w A2 n2 c2 xs2)(hne:e2≠e)
  (hg:w1.grownBy w' (Value.slice A2 n2 c2).ownBlock):aF e size B w' A n c xs:=
 ⟨aC (F:=fun k=>(Value.slice A2 n2 c2).ownBlock=some k) (aC h.1 hk (fun _ _ z=>z)) ((Kept.refl _ w1).grownBy hg fun k hk=> .inl hk) (fun g hg2=>rows_apart h.1 h2.1 hne g hg2),h.2⟩
def dI(l:List aO):List aO:=(l.filter fun p=>decide (1<p.left)).map fun p=>⟨p.id,p.at',p.left-1⟩
def iy(l:List aO):List Int:=(l.filter fun p=> !decide (1<p.left)).map fun p=>p.id
theorem LM{l:List aO}{i:Nat}{p:aO}(h:l[i]? =some p):dI (l.take (i+1))=if 1<p.left then dI (l.take i)++[⟨p.id,p.at',p.left-1⟩]else dI (l.take i):=by
 obtain⟨hi,he⟩:=lD0.1 h;unfold dI;rw[List.take_succ_eq_append_getElem hi,he,List.filter_append,List.map_append];by_cases hp:1<p.left
 ·rw[if_pos hp,List.filter_cons,if_pos (decide_eq_true hp)];rfl
 ·rw[if_neg hp,List.filter_cons,if_neg (by simpa using hp)];simp
theorem TC{l:List aO}{i:Nat}{p:aO}(h:l[i]? =some p):iy (l.take (i+1))=if 1<p.left then iy (l.take i)else iy (l.take i)++[p.id]:=by
 obtain⟨hi,he⟩:=lD0.1 h;unfold iy;rw[List.take_succ_eq_append_getElem hi,he,List.filter_append,List.map_append];by_cases hp:1<p.left
 ·rw[if_pos hp,List.filter_cons,if_neg (by simpa using hp)];simp
 ·rw[if_neg hp,List.filter_cons,if_pos (by simpa using hp)];rfl
theorem yF(l:List aO):(dI l).length<=l.length:=by unfold dI;rw[List.length_map];exact List.length_filter_le _ _
theorem Hu(l:List aO):(iy l).length<=l.length:=by unfold iy;rw[List.length_map];exact List.length_filter_le _ _
theorem sW(l:List aO)(p:aO):aS (l++[p])=aS l++[.int .i64 p.id,.int .u64 p.at',.int .i64 p.left]:=by unfold aS;rw[List.flatMap_append];rfl
def Hw(w:World)(l:List aO)(e:Ending)(w':World):Prop:=∃A c B d,e=.returned (.tuple #[.slice A (dI l).length c,.slice B (iy l).length d])/\aF 53 3 w.heap.size w' A (dI l).length c (aS (dI l))/\aF 3 1 w.heap.size w' B (iy l).length d (ints (iy l))/\Kept aj w w'
theorem XW(w:World)(A0:Option Addr)(c0:Nat)(l:List aO)(hl:Src w 3 A0 l.length (aS l))(hlen:l.length<=1000)(hleft:∀p∈l,0<=p.left/\p.left<=1000000):
  Calls Tryz.prog 46 #[.slice A0 l.length c0] w (Hw w l):=by
 have HL:=ah hl;have HLF:=ah hleft;clear hl hleft;go_enter Tryz.func46,Tryz.ntmps46;go_wp2_with fail
 go_loopw [4,5,10] (fun v4 v5 v10 wr=>∃(i:Nat) (A:Option Addr) (c:Nat) (B:Option Addr) (d:Nat),i<=l.length/\v10=.int .i64 i/\v4=.slice A (dI (l.take i)).length c/\v5=.slice B (iy (l.take i)).length d/\
  aF 53 3 w.heap.size wr A (dI (l.take i)).length c (aS (dI (l.take i)))/\aF 3 1 w.heap.size wr B (iy (l.take i)).length d (ints (iy (l.take i)))/\Kept aj w wr) (fun _ _ v10 _=>l.length-(intOf v10).toNat)
 case atStart=>exact⟨0,none,0,none,0,Nat.zero_le _,rfl,rfl,rfl,aF.nil _ _ _ _,aF.nil _ _ _ _,Kept.refl _ _⟩
 case round=>
  obtain⟨i,A,c,B,d,hi,rfl,rfl,rfl,hr1,hr2,hk⟩:=hrel;by_cases hil:i<l.length
  ·obtain⟨p,hp⟩:∃p,l[i]? =some p:=⟨_,lB0 hil⟩;obtain⟨ad,rfl,hl1,x0,x1,x2⟩:=iL (HL.out.kept hk (fun _ _ x=>x)) (by omega) i p hp;have ht:=LM hp;have hg:=TC hp;have hpl:=HLF.out p (lC0 hp);have b1:=yF (l.take i);have b2:=Hu (l.take i);have b3:(l.take i).length<=1000:=by rw[List.length_take];omega
   obtain⟨T,hT⟩:∃T,dI (l.take i)=T:=⟨_,rfl⟩;obtain⟨G,hG⟩:∃G,iy (l.take i)=G:=⟨_,rfl⟩;rw[hT]at ht hr1 b1⊢;rw[hG]at hg hr2 b2⊢;have HR1:=ah hr1;have HR2:=ah hr2;have HK:=ah hk;have HT:=ah ht;have HG:=ah hg;clear hp ht hg hT hG hr1 hr2 hk;obtain⟨q1,q2,q3⟩:=p;dsimp only at hpl x0 x1 x2;have hb3:0<=q3/\q3<=1000000:=hpl;have gU:Hid (T.length+1<=maxLen):=ah (by unfold maxLen;omega);have iT:Hid ((T.length+1)*24<=140737488355328):=ah (by omega);have xC:Hid (G.length+1<=maxLen):=ah (by unfold maxLen;omega);have zo:Hid ((G.length+1)*8<=140737488355328):=ah (by omega);clear hpl b1 b2 b3;by_cases h1:1<q3
   ·have ht1:=HT.out;have hg1:=HG.out;dsimp only at ht1 hg1;rw[if_pos h1]at ht1 hg1;have HT1:=ah ht1;have ig:=ah hg1;clear ht1 hg1 HT HG;have h2:¬q3<=1:=by omega
    go_wp2_with (at_builtin;refine aN qN (.tmp 26) (.tmp 28) rfl rfl (Value.slice A T.length c) rfl (aC HR1.out.1 (F:=aj) (by(repeat'(first|(with_reducible first|exact ak|apply au|apply ay|apply aA|apply aB)|(right;simp;done)))) (fun _ _ x=>x)) 1 rfl (Src.dA (t:=53) (size:=3) (m:=1) (cs:=#[.int .i64 q1,.int .u64 q2,.int .i64 (q3-1)]) (by(repeat (with_reducible first|exact Has.bK _ _ _ (by simp)|apply Has.drew|apply Has.drewN|apply Has.alloc|(apply Has.past<;>(try omega))))) rfl) (by simp[Value.oneCell']) gU.out iT.out ?_;intro A1 c1 w9 ho1 hg1 ha1;have hpush:=aF.pushed HR1.out (by(repeat'(first|(with_reducible first|exact ak|apply au|apply ay|apply aA|apply aB)|(exact HK.out)|(right;simp;done)))) ho1 hg1 ha1;have HP:=ah hpush;have fM:=aF.beside HR2.out (by(repeat'(first|(with_reducible first|exact ak|apply au|apply ay|apply aA|apply aB)|(right;simp;done)))) HR1.out (by decide) hg1;have uZ:=ah fM;clear ho1 hg1 ha1 hpush fM);go_roundw
    case rel=>exact⟨i+1,A1,c1,B,d,by omega,by go_num,by rw[HT1.out,lA0];rfl,by rw[ig.out],by rw[HT1.out,sW,lA0];exact HP.out.1,by rw[ig.out];exact uZ.out,HP.out.2⟩
    case measure=>simp[intOf];omega
   ·have ht1:=HT.out;have hg1:=HG.out;dsimp only at ht1 hg1;rw[if_neg h1]at ht1 hg1;have HT1:=ah ht1;have ig:=ah hg1;clear ht1 hg1 HT HG;have h2:q3<=1:=by omega
    go_wp2_with (at_builtin;refine aN aJ.jS (.tmp 17) (.tmp 20) rfl rfl (Value.slice B G.length d) rfl (aC HR2.out.1 (F:=aj) (by(repeat'(first|(with_reducible first|exact ak|apply au|apply ay|apply aA|apply aB)|(right;simp;done)))) (fun _ _ x=>x)) 1 rfl (Src.dA (t:=3) (size:=1) (m:=1) (cs:=#[.int .i64 q1]) (by(repeat (with_reducible first|exact Has.bK _ _ _ (by simp)|apply Has.drew|apply Has.drewN|apply Has.alloc|(apply Has.past<;>(try omega))))) rfl) (by simp[Value.oneCell']) xC.out zo.out ?_;intro A1 c1 w9 ho1 hg1 ha1;have hpush:=aF.pushed HR2.out (by(repeat'(first|(with_reducible first|exact ak|apply au|apply ay|apply aA|apply aB)|(exact HK.out)|(right;simp;done)))) ho1 hg1 ha1;have HP:=ah hpush;have fM:=aF.beside HR1.out (by(repeat'(first|(with_reducible first|exact ak|apply au|apply ay|apply aA|apply aB)|(right;simp;done)))) HR2.out (by decide) hg1;have uZ:=ah fM;clear ho1 hg1 ha1 hpush fM);go_roundw
    case rel=>exact⟨i+1,A,c,A1,c1,by omega,by go_num,by rw[HT1.out],by rw[ig.out,lA0];rfl,by rw[HT1.out];exact uZ.out,by rw[ig.out,lA0];simpa [ints]using HP.out.1,HP.out.2⟩
    case measure=>simp[intOf];omega
  ·obtain rfl:i=l.length:=by omega
   rw[List.take_length]at hr1 hr2⊢;have HR1:=ah hr1;have HR2:=ah hr2;have HK:=ah hk;clear hr1 hr2 hk;go_wp2;go_ret2;exact⟨A,c,B,d,rfl,HR1.out,HR2.out,HK.out⟩
end dh
namespace dh
open aJ Vn Mst jQ
def iq(l:List aO):Int:=match l.getLast? with|some p=>p.id|none=>0
def kL(l:List aO)(id:Int):Int:=if 3<=l.length then 17 else if id<1\/1073741824<id then 1 else if 0<l.length/\id<=iq l then 18 else 0
theorem last_at{l:List aO}{p:aO}(h:l[l.length-1]? =some p):iq l=p.id:=by unfold iq;rw[List.getLast?_eq_getElem?,h]
theorem XX(w:World)(A:Option Addr)(c:Nat)(l:List aO)(id at':Int)(hl:Src w 3 A l.length (aS l))(hlc:l.length<=c)(h0:kL l id≠0):
  Calls Tryz.prog 230 #[.slice A l.length c,.int .i64 id,.int .u64 at'] w fun e w'=>e=.returned (.tuple #[.slice none 0 0,.int .i64 (kL l id)])/\Kept aj w w':=by
 by_cases h1:3<=l.length
 ·have hE:kL l id=17:=by unfold kL;rw[if_pos h1]
  rw[hE];clear hE hl h0;go_enter Tryz.func230,Tryz.ntmps230;go_wp2;go_ret2;exact⟨rfl,Kept.refl _ _⟩
 by_cases h2:id<1
 ·have hE:kL l id=1:=by unfold kL;rw[if_neg h1,if_pos (.inl h2)]
  rw[hE];clear hE hl h0;go_enter Tryz.func230,Tryz.ntmps230;go_wp2;go_ret2;exact⟨rfl,Kept.refl _ _⟩
 by_cases h3:1073741824<id
 ·have hE:kL l id=1:=by unfold kL;rw[if_neg h1,if_pos (.inr h3)]
  rw[hE];clear hE hl h0;go_enter Tryz.func230,Tryz.ntmps230;go_wp2;go_ret2;exact⟨rfl,Kept.refl _ _⟩
 have hE0:kL l id=if 0<l.length/\id<=iq l then 18 else 0:=by unfold kL;rw[if_neg h1,if_neg (by omega)]
 by_cases h4:0<l.length/\id<=iq l
 ·have hE:kL l id=18:=by rw[hE0,if_pos h4]
  obtain⟨p,hp⟩:∃p,l[l.length-1]? =some p:=⟨_,lB0 (by omega)⟩;obtain⟨h4,h5⟩:=h4;rw[last_at hp]at h5;obtain⟨ad,rfl,had,x0,x1,x2⟩:=iL hl h4 (l.length-1) p hp;rw[hE];clear hE hl hE0 h0 hp;have hz:((l.length:Int)-1)=((l.length-1:Nat):Int):=by omega
  have hw:IntKind.i64.wrap ((l.length:Int)-1)=((l.length-1:Nat):Int):=by rw[hz];exact IntWalk.i64_in _ (by omega)
  go_enter Tryz.func230,Tryz.ntmps230;go_wp2;go_ret2;exact⟨rfl,Kept.refl _ _⟩
 ·rw[hE0,if_neg h4]at h0;exact absurd rfl h0
def XY(w:World)(l:List aO)(id at':Int)(e:Ending)(w':World):Prop:=
 ∃A c,e=.returned (.tuple #[.slice A (l.length+1) c,.int .i64 0])/\aF 53 3 w.heap.size w' A (l.length+1) c (aS (l++[⟨id,at',8⟩]))/\Kept aj w w'
theorem abj(w:World)(A:Option Addr)(c:Nat)(l:List aO)(id at':Int)(hl:Src w 3 A l.length (aS l))(hlc:l.length<=c)(h0:kL l id=0):
  Calls Tryz.prog 230 #[.slice A l.length c,.int .i64 id,.int .u64 at'] w (XY w l id at'):=by
 have h1:¬3<=l.length:=fun h=>by unfold kL at h0;rw[if_pos h]at h0;cases h0
 have h23:¬(id<1\/1073741824<id):=fun h=>by unfold kL at h0;rw[if_neg h1,if_pos h]at h0;cases h0
 have h4:¬(0<l.length/\id<=iq l):=fun h=>by unfold kL at h0;rw[if_neg h1,if_neg h23,if_pos h]at h0;cases h0
 have h2:¬id<1:=by omega
 have h3:¬1073741824<id:=by omega
 have hclone:=rD w A c l hl (by omega);have oL:=ah hclone;clear hclone h0 h23;have gU:Hid (l.length+1<=maxLen):=ah (by unfold maxLen;omega);by_cases h5:0<l.length
 ·obtain⟨p,hp⟩:∃p,l[l.length-1]? =some p:=⟨_,lB0 (by omega)⟩;have h6:¬id<=p.id:=fun h=>h4 ⟨h5,by rw[last_at hp];exact h⟩;obtain⟨ad,rfl,had,x0,x1,x2⟩:=iL hl h5 (l.length-1) p hp;clear hl hp h4;have hz:((l.length:Int)-1)=((l.length-1:Nat):Int):=by omega
  have hw:IntKind.i64.wrap ((l.length:Int)-1)=((l.length-1:Nat):Int):=by rw[hz];exact IntWalk.i64_in _ (by omega)
  go_enter Tryz.func230,Tryz.ntmps230;go_wp2_with fail;refine oL.out.mono ?_;rintro e w2 ⟨A2,c2,rfl,hr,hk⟩;have HR:=ah hr;have HK:=ah hk;clear hr hk;go_wp2_with (at_builtin;refine aN qN (.tmp 35) (.tmp 39) rfl rfl (Value.slice A2 l.length c2) rfl (aC HR.out.1 (F:=aj) (by(repeat'(first|(with_reducible first|exact ak|apply au|apply ay|apply aA|apply aB)|(right;simp;done)))) (fun _ _ x=>x)) 1 rfl (Src.dA (t:=53) (size:=3) (m:=1) (cs:=#[.int .i64 id,.int .u64 at',.int .i64 8]) (by(repeat (with_reducible first|exact Has.bK _ _ _ (by simp)|apply Has.drew|apply Has.drewN|apply Has.alloc|(apply Has.past<;>(try omega))))) rfl) (by simp[Value.oneCell']) gU.out (by omega) ?_;intro A1 c1 w9 ho1 hg1 ha1;have hpush:=aF.pushed HR.out (by(repeat'(first|(with_reducible first|exact ak|apply au|apply ay|apply aA|apply aB)|(exact HK.out)|(right;simp;done)))) ho1 hg1 ha1;have HP:=ah hpush;clear ho1 hg1 ha1 hpush);go_ret2;exact⟨A1,c1,rfl,by rw[sW];exact HP.out.1,HP.out.2⟩
 ·clear h4 hl;go_enter Tryz.func230,Tryz.ntmps230;go_wp2_with fail;refine oL.out.mono ?_;rintro e w2 ⟨A2,c2,rfl,hr,hk⟩;have HR:=ah hr;have HK:=ah hk;clear hr hk;go_wp2_with (at_builtin;refine aN qN (.tmp 35) (.tmp 39) rfl rfl (Value.slice A2 l.length c2) rfl (aC HR.out.1 (F:=aj) (by(repeat'(first|(with_reducible first|exact ak|apply au|apply ay|apply aA|apply aB)|(right;simp;done)))) (fun _ _ x=>x)) 1 rfl (Src.dA (t:=53) (size:=3) (m:=1) (cs:=#[.int .i64 id,.int .u64 at',.int .i64 8]) (by(repeat (with_reducible first|exact Has.bK _ _ _ (by simp)|apply Has.drew|apply Has.drewN|apply Has.alloc|(apply Has.past<;>(try omega))))) rfl) (by simp[Value.oneCell']) gU.out (by omega) ?_;intro A1 c1 w9 ho1 hg1 ha1;have hpush:=aF.pushed HR.out (by(repeat'(first|(with_reducible first|exact ak|apply au|apply ay|apply aA|apply aB)|(exact HK.out)|(right;simp;done)))) ho1 hg1 ha1;have HP:=ah hpush;clear ho1 hg1 ha1 hpush);go_ret2;exact⟨A1,c1,rfl,by rw[sW];exact HP.out.1,HP.out.2⟩
def gV(f:Int)(l:List Int):Int:=l.foldl (fun a b=>min a b) f
theorem RU{f:Int}{l:List Int}{i:Nat}{x:Int}(h:l[i]? =some x):gV f (l.take (i+1))=min (gV f (l.take i)) x:=by obtain⟨hi,he⟩:=lD0.1 h;unfold gV;rw[List.take_succ_eq_append_getElem hi,he,List.foldl_append];rfl
theorem EF{f:Int}{l:List Int}(hf:0<=f/\f<=aW)(h:∀x∈l,0<=x/\x<=aW):0<=gV f l/\gV f l<=aW:=by
 induction l generalizing f with
 |nil=>exact hf
 |cons a l ih=>
  have ha:=h a (List.mem_cons_self ..);exact ih (f:=min f a) (by omega) fun x hx=>h x (List.mem_cons_of_mem _ hx)
theorem UX{w:World}{A:Option Addr}{m:Nat}{l:List Int}(h:Src w 1 A m (l.map (Value.int .u64)))(hm:0<m)(i:Nat)(x:Int)(hx:l[i]? =some x):
  ∃ad,A=some ad/\ad.block<w.heap.size/\w.cell? (ad.add i)=some (.int .u64 x):=by
 obtain⟨ad,rfl,had,hcell⟩:=h.2 hm;exact⟨ad,rfl,had,hcell i _ (by rw[List.getElem?_map,hx];rfl)⟩
theorem ady(a b M:Int)(h:min a b=M)(W:World)(ts:Array TypeId)(t:TypeId):(Builtin.min_ ts t #[.int .u64 a,.int .u64 b]).run Tryz.prog W=.ok (.int .u64 M) W:=by
 rw[run_min_int2];split
 ·rw[show M=b by omega]
 ·rw[show M=a by omega]
theorem LP(w:World)(f:Int)(A:Option Addr)(c:Nat)(l:List Int)(hl:Src w 1 A l.length (l.map (Value.int .u64)))(hlen:l.length<=1000000):
  Calls Tryz.prog 183 #[.int .u64 f,.slice A l.length c] w fun e w'=>e=.returned (.int .u64 (gV f l))/\w=w':=by
 have HL:=ah hl;clear hl;go_enter Tryz.func183,Tryz.ntmps183;go_wp2_with fail;go_loop [0,9] (fun v0 v9=>∃i:Nat,i<=l.length/\v9=.int .i64 i/\v0=.int .u64 (gV f (l.take i))) (fun _ v9=>l.length-(intOf v9).toNat)
 case atStart=>exact⟨0,Nat.zero_le _,rfl,rfl⟩
 case round=>
  obtain⟨i,hi,rfl,rfl⟩:=hrel;by_cases hil:i<l.length
  ·obtain⟨x,hx⟩:∃x,l[i]? =some x:=⟨_,lB0 hil⟩;obtain⟨ad,rfl,hl1,x0⟩:=UX HL.out (by omega) i x hx;have hs:=RU (f:=f) hx;obtain⟨a,ha⟩:∃a,gV f (l.take i)=a:=⟨_,rfl⟩;obtain⟨M,hM⟩:∃M,min a x=M:=⟨_,rfl⟩;rw[ha,hM]at hs;rw[ha];have hmin:=fun W ts t=>ady a x M hM W ts t;have HS:=ah hs;clear hs ha hM hx;go_wp2;go_round
   case rel=>exact⟨i+1,by omega,by go_num,by rw[HS.out]⟩
   case measure=>simp[intOf];omega
  ·obtain rfl:i=l.length:=by omega
   rw[List.take_length];go_wp2;go_ret;exact⟨rfl,rfl⟩

/- Part 13. -/
import Derived.Test.YtomccaocggplgaaGreatMP11
set_option linter.unusedSimpArgs false
set_option linter.unusedVariables false
set_option maxHeartbeats 32000000
set_option maxRecDepth 100000
namespace Go.Proofs.YtomccaocggplgaaGreat
open Go.RowKit
namespace dh
open aJ Vn Mst jQ
theorem abk(ad:Addr)(n c:Nat)(W:World):(Instr.slice 42 (.slice (some ad) (n+1) c) (some (.int .i64 1)) none none).run Tryz.prog W=.ok (.slice (if c=1 then some ad else some (ad.add 1)) n (c-1)) W:=by
 rw[run_slice_l (P:=Tryz.prog) (w:=W) 42 (some ad) (n+1) c (by kernel_rfl) .i64 1 (by omega) (by omega)];have hs:(sizeOf (Tryz.prog.elem 42)).run Tryz.prog W=.ok 1 W:=by kernel_rfl
 rw[hs];simp only[Result.andThen,sliced];by_cases hc:c=1
 ·subst hc;simp
 ·simp[hc]
theorem abl(w:World)(A:Option Addr)(c:Nat)(m:Int)(r:List Int)(hl:Src w 1 A (r.length+1) ((m::r).map (Value.int .u64)))(hlc:r.length+1<=c)(hlen:r.length<=1000000):
  Calls Tryz.prog 182 #[.slice A (r.length+1) c] w fun e w'=>e=.returned (.tuple #[.int .u64 (gV m r),.bool true])/\Kept aj w w':=by
 obtain⟨ad,rfl,had,hcell⟩:=hl.2 (by omega);have x0:w.cell? ad=some (.int .u64 m):=by simpa [Addr.add]using hcell 0 (.int .u64 m) rfl
 have hd:=Src.drop hl (k:=1) (by omega) hlc;have hd2:Src w 1 (if c=1 then some ad else some (ad.add 1)) r.length (r.map (Value.int .u64)):=by simpa using hd
 obtain⟨A2,hA2⟩:∃A2,(if c=1 then some ad else some (ad.add 1))=A2:=⟨_,rfl⟩;have hsl:=fun W=>abk ad r.length c W;rw[hA2]at hd2 hsl;have XZ:=fun W (hW:Kept aj w W)=>LP W m A2 (c-1) r (hd2.kept hW (fun _ _ z=>z)) hlen;have jw:=ah XZ;obtain⟨n,hn⟩:∃n,r.length=n:=⟨_,rfl⟩;rw[hn]at hsl jw hlc hlen⊢;have z0:((n:Int)+1==0)=false:=by simpa using(by omega:(n:Int)+1≠0)
 have z1:(((n+1:Nat):Int)==0)=false:=by simpa using(by omega:(n:Int)+1≠0)
 clear XZ hd hd2 hl hcell hA2 hn;go_enter Tryz.func182,Tryz.ntmps182;go_wp2_with fail;go_quiet ((go_at_call 183;exact Calls.quiet_of_same ((jw.out _ (by(repeat'(first|(with_reducible first|exact ak|apply au|apply ay|apply aA|apply aB)|(right;simp;done))))).mono fun e w' h=>⟨h.1,h.2.symm⟩)));go_wp2;go_ret2;exact⟨rfl,by(repeat'(first|(with_reducible first|exact ak|apply au|apply ay|apply aA|apply aB)|(right;simp;done)))⟩
theorem abm(w:World)(A:Option Addr)(c:Nat):
  Calls Tryz.prog 182 #[.slice A 0 c] w fun e w'=>e=.returned (.tuple #[.int .u64 0,.bool false])/\w=w':=by
 go_enter Tryz.func182,Tryz.ntmps182;go_wp2;go_ret2;exact⟨rfl,rfl⟩
def zU(old:Int)(marks:List Int)(pins:List aO):Int:=match marks with
 |[]=>old
 |m::r=>max old (gV (gV m r-min (gV m r) 2) (pins.map fun p=>p.at'))
theorem TD:Elem Tryz.prog 42 23 1 8:=⟨Tryz.underlying42,⟨_,_,rfl,rfl,rfl,rfl,rfl⟩,by decide⟩
theorem aef(w:World)(old:Int)(A B:Option Addr)(c n d:Nat):
  Calls Tryz.prog 102 #[.int .u64 old,.slice A 0 c,.slice B n d] w fun e w'=>e=.returned (.int .u64 old)/\w=w':=by
 go_enter Tryz.func102,Tryz.ntmps102;go_wp2_with fail;refine(abm _ _ _).mono ?_;rintro e w2 ⟨rfl,rfl⟩;go_wp2;go_ret;exact⟨rfl,rfl⟩
theorem aeg(w:World)(old:Int)(A B:Option Addr)(c d:Nat)(m:Int)(r:List Int)(l:List aO)(hm:Src w 1 A (r.length+1) ((m::r).map (Value.int .u64)))(hlc:r.length+1<=c)(hlen:r.length<=1000000)(hl:Src w 3 B l.length (aS l))(hll:l.length<=1000000)
  (hold:0<=old/\old<=aW) (hmr:∀x∈m::r,0<=x/\x<=aW):
  Calls Tryz.prog 102 #[.int .u64 old,.slice A (r.length+1) c,.slice B l.length d] w fun e w'=>e=.returned (.int .u64 (zU old (m::r) l))/\Kept aj w w':=by
 have hmin:=abl w A c m r hm hlc hlen;have uX:=EF (f:=m) (l:=r) (hmr m (List.mem_cons_self ..)) (fun x hx=>hmr x (List.mem_cons_of_mem _ hx));have hH:zU old (m::r) l=max old (gV (gV m r-min (gV m r) 2) (l.map fun p=>p.at')):=rfl;rw[hH];obtain⟨M,hM⟩:∃M,gV m r=M:=⟨_,rfl⟩;obtain⟨K,hK⟩:∃K,min M 2=K:=⟨_,rfl⟩;obtain⟨D,hD⟩:∃D,M-K=D:=⟨_,rfl⟩;obtain⟨L,hL⟩:∃L,gV D (l.map fun p=>p.at')=L:=⟨_,rfl⟩;obtain⟨X,hX⟩:∃X,max old L=X:=⟨_,rfl⟩;rw[hM]at hmin uX⊢;rw[hK,hD,hL,hX];have LQ:0<=K/\K<=M:=by omega
 have hsub:IntKind.u64.wrap (M-K)=D:=by rw[<-hD];unfold aW at uX;exact IntWalk.u64_in _ (by omega)
 have afq:=ah hmin;have HL:=ah hl;have mO:=ah hL;have abn:=ah hsub;have UY:=fun W ts t=>ady M 2 K hK W ts t;have UZ:=fun W ts t=>UA old L X hX W ts t;have HMF:=ah UY;have HXF:=ah UZ;clear hmin hl hL hX hK hD hM hH hsub UY UZ hm hmr uX hold LQ;obtain⟨n,hn⟩:∃n,r.length=n:=⟨_,rfl⟩;rw[hn]at afq⊢;clear hn hlc hlen;go_enter Tryz.func102,Tryz.ntmps102;go_wp2_with fail;refine afq.out.mono ?_;rintro e w2 ⟨rfl,hk2⟩;have aV:=ah hk2;clear hk2;go_wp2_with fail;go_loopw [9,22] (fun v9 v22 wr=>∃(i:Nat) (C:Option Addr) (c':Nat),i<=l.length/\v22=.int .i64 i/\v9=.slice C (l.take i).length c'/\aF 23 1 w.heap.size wr C (l.take i).length c' ((l.take i).map fun p=>Value.int .u64 p.at')/\Kept aj w wr) (fun _ v22 _=>l.length-(intOf v22).toNat)
 case atStart=>exact⟨0,none,0,Nat.zero_le _,rfl,rfl,aF.nil _ _ _ _,aV.out⟩
 case round=>
  obtain⟨i,C,c',hi,rfl,rfl,hr,hk⟩:=hrel;have HR:=ah hr;have HK:=ah hk;clear hr hk;by_cases hil:i<l.length
  ·obtain⟨p,hp⟩:∃p,l[i]? =some p:=⟨_,lB0 hil⟩;obtain⟨ad,rfl,hl1,x0,x1,x2⟩:=iL (HL.out.kept HK.out (fun _ _ x=>x)) (by omega) i p hp;have hts:l.take (i+1)=l.take i++[p]:=aJ.take_snoc hp;have hb:(l.take i).length<=1000000:=by rw[List.length_take];omega
   obtain⟨T,hT⟩:∃T,l.take i=T:=⟨_,rfl⟩;rw[hT]at hts HR hb⊢;have OU:=ah hts;have gU:Hid (T.length+1<=maxLen):=ah (by unfold maxLen;omega);have iT:Hid ((T.length+1)*8<=140737488355328):=ah (by omega);clear hp hts hT hb;go_wp2_with (at_builtin;refine aN TD (.tmp 26) (.tmp 29) rfl rfl (Value.slice C T.length c') rfl (aC HR.out.1 (F:=aj) (by(repeat'(first|(with_reducible first|exact ak|apply au|apply ay|apply aA|apply aB)|(right;simp;done)))) (fun _ _ x=>x)) 1 rfl (Src.dA (t:=23) (size:=1) (m:=1) (cs:=#[.int .u64 p.at']) (by(repeat (with_reducible first|exact Has.bK _ _ _ (by simp)|apply Has.drew|apply Has.drewN|apply Has.alloc|(apply Has.past<;>(try omega))))) rfl) (by simp[Value.oneCell']) gU.out iT.out ?_;intro A1 c1 w9 ho1 hg1 ha1;have hpush:=aF.pushed HR.out (by(repeat'(first|(with_reducible first|exact ak|apply au|apply ay|apply aA|apply aB)|(exact HK.out)|(right;simp;done)))) ho1 hg1 ha1;have HP:=ah hpush;clear ho1 hg1 ha1 hpush);go_roundw
   case rel=>exact⟨i+1,A1,c1,by omega,by go_num,by rw[OU.out,lA0];rfl,by rw[OU.out,lA0,List.map_append];exact HP.out.1,HP.out.2⟩
   case measure=>simp[intOf];omega
  ·obtain rfl:i=l.length:=by omega
   rw[List.take_length]at HR⊢;have hlm:(l.map fun p=>p.at').length=l.length:=List.length_map _;have hsrc:Src wr 1 C (l.map fun p=>p.at').length ((l.map fun p=>p.at').map (Value.int .u64)):=by rw[hlm,List.map_map];exact Src.bF HR.out.1
   have hcall:=LP wr D C c' (l.map fun p=>p.at') hsrc (by rw[hlm];omega);rw[mO.out,hlm]at hcall;have HC:=ah hcall;clear hsrc hcall hlm;have UY:=HMF.out;have UZ:=HXF.out;have hsub:=abn.out;go_wp2_with fail;refine HC.out.mono ?_;rintro e w5 ⟨rfl,rfl⟩;go_wp2;go_ret;exact⟨rfl,HK.out⟩
def TE(w:World)(l:List Mem)(e:Ending)(w':World):Prop:=∃A c,e=.returned (.slice A l.length c)/\aF 3 1 w.heap.size w' A l.length c (ints (ids l))/\Kept aj w w'
theorem aeh(w:World)(ep fl:Int)(A:Option Addr)(c:Nat)(l:List Mem)(hl:Src w 2 A l.length (aU l))(hlen:l.length<=1000):
  Calls Tryz.prog 21 #[nC ep A l.length c fl] w (TE w l):=by
 have HL:=ah hl;clear hl;go_enter Tryz.func21,Tryz.ntmps21;go_wp2_with fail;go_loopw [3,9] (fun v3 v9 wr=>∃(i:Nat) (C:Option Addr) (c':Nat),i<=l.length/\v9=.int .i64 i/\v3=.slice C (l.take i).length c'/\aF 3 1 w.heap.size wr C (l.take i).length c' (ints ((l.take i).map (·.1)))/\Kept aj w wr) (fun _ v9 _=>l.length-(intOf v9).toNat)
 case atStart=>exact⟨0,none,0,Nat.zero_le _,rfl,rfl,aF.nil _ _ _ _,by(repeat'(first|(with_reducible first|exact ak|apply au|apply ay|apply aA|apply aB)|(right;simp;done)))⟩
 case round=>
  obtain⟨i,C,c',hi,rfl,rfl,hr,hk⟩:=hrel;have HR:=ah hr;have HK:=ah hk;clear hr hk;by_cases hil:i<l.length
  ·obtain⟨p,hp⟩:∃p,l[i]? =some p:=⟨_,lB0 hil⟩;obtain⟨ad,rfl,hl1,x0,x1⟩:=jr (HL.out.kept HK.out (fun _ _ x=>x)) (by omega) i p hp;have hts:l.take (i+1)=l.take i++[p]:=aJ.take_snoc hp;have hb:(l.take i).length<=1000:=by rw[List.length_take];omega
   obtain⟨T,hT⟩:∃T,l.take i=T:=⟨_,rfl⟩;rw[hT]at hts HR hb⊢;have OU:=ah hts;have gU:Hid (T.length+1<=maxLen):=ah (by unfold maxLen;omega);have iT:Hid ((T.length+1)*8<=140737488355328):=ah (by omega);clear hp hts hT hb;go_wp2_with (at_builtin;refine aN aJ.jS (.tmp 13) (.tmp 16) rfl rfl (Value.slice C T.length c') rfl (aC HR.out.1 (F:=aj) (by(repeat'(first|(with_reducible first|exact ak|apply au|apply ay|apply aA|apply aB)|(right;simp;done)))) (fun _ _ x=>x)) 1 rfl (Src.dA (t:=3) (size:=1) (m:=1) (cs:=#[.int .i64 p.1]) (by(repeat (with_reducible first|exact Has.bK _ _ _ (by simp)|apply Has.drew|apply Has.drewN|apply Has.alloc|(apply Has.past<;>(try omega))))) rfl) (by simp[Value.oneCell']) gU.out iT.out ?_;intro A1 c1 w9 ho1 hg1 ha1;have hpush:=aF.pushed HR.out (by(repeat'(first|(with_reducible first|exact ak|apply au|apply ay|apply aA|apply aB)|(exact HK.out)|(right;simp;done)))) ho1 hg1 ha1;have HP:=ah hpush;clear ho1 hg1 ha1 hpush);go_roundw
   case rel=>exact⟨i+1,A1,c1,by omega,by go_num,by rw[OU.out,lA0];rfl,by rw[OU.out,lA0,List.map_append];simpa [ints]using HP.out.1,HP.out.2⟩
   case measure=>simp[intOf];omega
  ·obtain rfl:i=l.length:=by omega
   rw[List.take_length]at HR⊢;have hcall:=LJ (w:=wr) (B:=0) (A:=C) (c:=c') (ss:=l.map (·.1)) (n:=l.length) (by simp) HR.out.1 (by simp;omega);have HC:=ah hcall;clear hcall;go_wp2_with fail;refine HC.out.mono ?_;rintro e w5 ⟨rfl,ho,hk5⟩;have hk:=HK.out.trans hk5 (fun k hk=> .inr (HR.out.2 k hk));have HO:=ah ho;have HKK:=ah hk;clear ho hk hk5;go_wp2;go_ret;exact⟨C,c',rfl,⟨HO.out,HR.out.2⟩,HKK.out⟩
end dh
end Go.Proofs.YtomccaocggplgaaGreat
namespace Go.Proofs.YtomccaocggplgaaGreat
open Go.RowKit Go.Maps
namespace IM
open aJ
def fD(q:IntKind)(e:TypeId)(w:World)(b n:Nat)(f:Int->Option Int):Prop:=
 ∃D:DataW Unit,w.ownsMap Tryz.prog 3 (plainElem Tryz.prog e) b n D/\∀k,I64 k->has D (.int .i64 k)=(f k).isSome/\D.atKey (.int .i64 k) (.lit (.int q 0))=.lit (.int q ((f k).getD 0))
def vg(f:Int->Option Int)(k:Int)(v:Option Int):Int->Option Int:=fun x=>if x=k then v else f x
section
variable{q:IntKind}{e t:TypeId}{w w':World}{b n:Nat}{f:Int->Option Int}{k:Int}
theorem fD.lt(h:fD q e w b n f):b<w.heap.size:=by obtain⟨D,h,_⟩:=h;exact h.lt
theorem fD.kept{F:Nat->Prop}(h:fD q e w b n f)(hk:Kept F w w')(hf:¬F b):fD q e w' b n f:=by obtain⟨D,ho,hD⟩:=h;have hlt:=ho.lt;obtain⟨es,clock,hb,hF,hs,e⟩:=ho;exact⟨D,⟨es,clock,(hk.block b hlt hf).trans hb,hF,hs,e⟩,hD⟩
theorem fD.made(q:IntKind)(e:TypeId)(w:World):fD q e (w.alloc (.map #[] 0)) w.heap.size 0 (fun _=>none):=⟨_,World.ownsMap_made w _ _ _,fun k hk=>⟨rfl,rfl⟩⟩
theorem fD.mono(h:fD q e w b n f){m:Nat}(hm:n<=m):fD q e w b m f:=by obtain⟨D,ho,hD⟩:=h;exact⟨D,ho.mono hm,hD⟩
theorem fD.map(h:fD q e w b n f):∃es c,w.heap[b]? =some (.map es c):=by obtain⟨D,⟨es,c,hb,_⟩,_⟩:=h;exact⟨es,c,hb⟩
theorem wf0(q:IntKind):(Lit.int q 0).wf=true:=by cases q<;>decide
theorem fD.look(h:fD q e w b n f)(ht:Tryz.prog.underlying t=some (.map 3 e))(he:Tryz.prog.underlying e=some (.int q))(hz:(zeroValue e).run Tryz.prog w=.ok (.int q 0) w)(hk:I64 k):
  (Instr.lookup t (.map (some b)) (.int .i64 k) false).run Tryz.prog w=.ok (.int q ((f k).getD 0)) w:=by
 obtain⟨D,ho,hD⟩:=h;obtain⟨c,hrun,hat,_⟩:=ho.lookup_int kE ht he hz (qI hk);rw[(hD k hk).2]at hat;injection hat with hat;injection hat with _ hat;rw[hrun,hat]
theorem fD.look_ok(h:fD q e w b n f)(ht:Tryz.prog.underlying t=some (.map 3 e))(he:Tryz.prog.underlying e=some (.int q))(hz:(zeroValue e).run Tryz.prog w=.ok (.int q 0) w)(hk:I64 k):
  (Instr.lookup t (.map (some b)) (.int .i64 k) true).run Tryz.prog w=.ok (.tuple #[.int q ((f k).getD 0),.bool (f k).isSome]) w:=by
 obtain⟨D,ho,hD⟩:=h;obtain⟨v,ps,hrun,hv⟩:=ho.look_ok kE ht hz (plainElem_int he (wf0 q)) (qI hk);rw[(hD k hk).2]at hv;obtain⟨c,rfl,hc,_⟩:=plainElem_int_inv he hv;simp only[Prod.mk.injEq]at hc;obtain⟨hc,_⟩:=hc;injection hc with hc;injection hc with _ hc;rw[hrun,hc,(hD k hk).1]
theorem fD.store(h:fD q e w b n f)(ht:Tryz.prog.underlying t=some (.map 3 e))(he:Tryz.prog.underlying e=some (.int q))(hn:n<maxLen)(hk:I64 k){x:Int}(hx:(Lit.int q x).wf=true):
  ∃w',(Instr.mapUpdate t (.map (some b)) (.int .i64 k) (.int q x)).run Tryz.prog w=.ok () w'/\fD q e w' b (n+1) (vg f k (some x))/\Kept (fun i=>i=b) w w':=by
 obtain⟨D,ho,hD⟩:=h;obtain⟨w',hrun,ho',hg⟩:=ho.update kE ht hn (qI hk) (plainElem_int he hx);refine⟨w',hrun,⟨_,ho',?_⟩,(Kept.refl _ _).grownBy hg fun i hi=>by injection hi with hi;exact .inl hi.symm⟩;intro y hy;have hm:IsMap D:=ho.isMap;have hl:WideAt.IsKeyLit (.int .i64 k):=by trivial
 by_cases e1:y=k
 ·subst e1;rw[has_put_same hm hl,atKey_put_same hm hl];simp[vg]
 ·have hne:(Lit.int .i64 y)≠ .int .i64 k:=fun h=>e1 (by injection h);rw[has_put_other hne,atKey_put_other hne];have:=hD y hy;simpa [vg,e1]using this
theorem fD.drop(h:fD q e w b n f)(ht:Tryz.prog.underlying t=some (.map 3 e))(hk:I64 k)(ty:TypeId):
  ∃w',(Builtin.delete_ #[t,3] ty #[.map (some b),.int .i64 k]).run Tryz.prog w=.ok (.tuple #[]) w'/\fD q e w' b n (vg f k none)/\Kept (fun i=>i=b) w w':=by
 obtain⟨D,ho,hD⟩:=h;obtain⟨w',hrun,ho',htu⟩:=ho.drop kE ht (qI hk) ty;refine⟨w',hrun,⟨_,ho',?_⟩,(Kept.refl _ _).grownBy htu.grown fun i hi=>by injection hi with hi;exact .inl hi.symm⟩;intro y hy;by_cases e1:y=k
 ·subst e1;rw[has_del_same,atKey_del_same];simp[vg]
 ·have hne:(Lit.int .i64 y)≠ .int .i64 k:=fun h=>e1 (by injection h);rw[has_del_other hne,atKey_del_other hne];have:=hD y hy;simpa [vg,e1]using this
theorem yh{w:World}{b c:Nat}{es:Array MapEntry}{t k e:TypeId}(ht:Tryz.prog.underlying t=some (.map k e))(hb:w.heap[b]? =some (.map es c))(ty:TypeId):
  (Builtin.clear_ #[t] ty #[.map (some b)]).run Tryz.prog w=.ok (.tuple #[]) (ChangeMaps.setBlock w b (.map #[] c)):=by
 simp[Builtin.clear_,run_underlying ht,MapKept.run_getObj_map hb,MapKept.run_setObj_map _ hb,Result.andThen,ChangeMaps.setBlock]
theorem Jb{D:DataW Unit}{R:Value->Option (DataW Unit×List MemPlace)}(h:w.ownsMap Tryz.prog 3 R b n D)(ht:Tryz.prog.underlying t=some (.map 3 e))(ty:TypeId):
  ∃w',(Builtin.clear_ #[t] ty #[.map (some b)]).run Tryz.prog w=.ok (.tuple #[]) w'/\w'.ownsMap Tryz.prog 3 R b n (.map [])/\Kept (fun i=>i=b) w w':=by
 obtain⟨es,c,hb,hF,hs,rfl⟩:=h;refine⟨_,yh ht hb ty,⟨#[],c,ChangeMaps.heap_setBlock_same hb _,⟨by simp,MapKept.stamped_empty c,by simp⟩,by simp,rfl⟩,⟨rfl,rfl,rfl,by simp[ChangeMaps.setBlock],fun i _ hi=>ChangeMaps.heap_setBlock_other hb _ (fun e=>hi e)⟩⟩
theorem fD.clear(h:fD q e w b n f)(ht:Tryz.prog.underlying t=some (.map 3 e))(ty:TypeId):
  ∃w',(Builtin.clear_ #[t] ty #[.map (some b)]).run Tryz.prog w=.ok (.tuple #[]) w'/\fD q e w' b n (fun _=>none)/\Kept (fun i=>i=b) w w':=by
 obtain⟨D,ho,hD⟩:=h;obtain⟨w',hrun,ho',hk⟩:=Jb ho ht ty;exact⟨w',hrun,⟨_,ho',fun k hk=>⟨rfl,rfl⟩⟩,hk⟩
end
section
variable{w w':World}{b n:Nat}{s:Int->Bool}{k:Int}
theorem bT.mono(h:bT w b n s){m:Nat}(hm:n<=m):bT w b m s:=by obtain⟨D,ho,hD⟩:=h;exact⟨D,ho.mono hm,hD⟩
theorem bT.drop(h:bT w b n s)(hk:I64 k)(ty:TypeId):
  ∃w',(Builtin.delete_ #[83,3] ty #[.map (some b),.int .i64 k]).run Tryz.prog w=.ok (.tuple #[]) w'/\bT w' b n (fun y=> !decide (y=k)&&s y)/\Kept (fun i=>i=b) w w':=by
 obtain⟨D,ho,hD⟩:=h;obtain⟨w',hrun,ho',htu⟩:=ho.drop kE Tryz.underlying83 (qI hk) ty;refine⟨w',hrun,⟨_,ho',?_⟩,(Kept.refl _ _).grownBy htu.grown fun i hi=>by injection hi with hi;exact .inl hi.symm⟩;intro y hy;by_cases e1:y=k
 ·subst e1;rw[atKey_del_same];simp
 ·have hne:(Lit.int .i64 y)≠ .int .i64 k:=fun h=>e1 (by injection h);rw[atKey_del_other hne,hD y hy];simp[e1]
theorem bT.clear(h:bT w b n s)(ty:TypeId):
  ∃w',(Builtin.clear_ #[83] ty #[.map (some b)]).run Tryz.prog w=.ok (.tuple #[]) w'/\bT w' b n (fun _=>false)/\Kept (fun i=>i=b) w w':=by
 obtain⟨D,ho,hD⟩:=h;obtain⟨w',hrun,ho',hk⟩:=Jb ho Tryz.underlying83 ty;exact⟨w',hrun,⟨_,ho',fun k hk=>rfl⟩,hk⟩
theorem bT.map(h:bT w b n s):∃es c,w.heap[b]? =some (.map es c):=by obtain⟨D,⟨es,c,hb,_⟩,_⟩:=h;exact⟨es,c,hb⟩
end
end IM
end Go.Proofs.YtomccaocggplgaaGreat
namespace Go.Proofs.YtomccaocggplgaaGreat
open Go.RowKit
namespace Mst
open aJ Vn Go.Sort
theorem adz(a b M:Int)(h:max a b=M)(W:World)(ts:Array TypeId)(t:TypeId):(Builtin.max_ ts t #[.int .i64 a,.int .i64 b]).run Tryz.prog W=.ok (.int .i64 M) W:=by
 rw[run_max_int2];split
 ·rw[show M=b by omega]
 ·rw[show M=a by omega]
theorem U0(w:World)(b:Nat)(F:Nat->Prop)(s:bQ)(x:aG)(hs:fH w b F s)(hok:pY s)(h:iR w x)(h0:aT x=0)(hk:x.k=1):
  Calls Tryz.prog 33 #[.pointer (some ⟨b,0,none⟩),fU x] w (bY w b F s x):=by
 have h00:aT x=0:=h0;obtain⟨mA,mc,lA,lc,pA,pc,hF,hb,hm,hl,hp⟩:=hs;have hck:=fun W (hW:Kept aj w W)=>fB W x (h.kept hW);have hnone:=fun W (hW:Kept aj w W)=>dZ W b s mA mc lA lc pA pc true (hb.kept hW (fun z=>z));rw[h00]at hck;obtain⟨W0,hW0⟩:∃W0,w.alloc (.cells (aK x).toArray 78)=W0:=⟨_,rfl⟩;have hk0:Kept aj w W0:=by rw[<-hW0];(repeat'(first|(with_reducible first|exact ak|apply au|apply ay|apply aA|apply aB)|(right;simp;done)))
 have hn0:Has W0 w.heap.size 78 (aK x).toArray:=by rw[<-hW0];exact Has.new _ _ _
 have hE:bn s x=mX s x:=by unfold bn;rw[if_neg (by simpa using h00),if_pos hk]
 have hfin:∀w3 w',Kept aj w w3->kX w3 b s x pA pc (.returned (.int .i64 (mX s x))) w'->bY w b F s x (.returned (.int .i64 (mX s x))) w':=by
  intro w3 w' hk3 hpost;have hst:=(show fH w b F s from⟨mA,mc,lA,lc,pA,pc,hF,hb,hm,hl,hp⟩);rcases hpost with⟨h1,_,h2⟩|⟨h1,_,A,c,B,d,h2,h3,h4,h5⟩
  ·rw[<-hE];exact bY.bad hst (by rw[hE];exact h1) (hk3.then h2)
  ·have hS:aP s x={s with ep:=x.ep,ms:=x.ms,fl:=x.fl,lg:=x.lg}:=by unfold aP;rw[if_neg (by rw[hE,h1];simp),if_pos hk]
   have hbF:∀k,k=b->F k:=fun k e=>(hF k).2 (.inl e);have hpb:=own_ne hp hb (by decide);have hsz:=hk3.size;refine⟨fun k=>k=b\/RowOf (.slice A x.ms.length c) k\/RowOf (.slice B x.lg.length d) k\/RowOf (.slice pA s.pins.length pc) k,by rw[hE],?_,?_,(Kept.up hk3).then (h5.mono hbF)⟩
   ·rw[hS];exact⟨A,c,B,d,pA,pc,fun k=>Iff.rfl,h2,h3.1,h4.1,aC hp ((Kept.up hk3).then h5) (fun g hg e=>hpb (by rw[hg,e]))⟩
   ·rintro k (e|e|e|e)
    ·exact .inl (hbF k e)
    ·exact .inr (Nat.le_trans hsz (h3.2 k e))
    ·exact .inr (Nat.le_trans hsz (h4.2 k e))
    ·exact .inl ((hF k).2 (.inr (.inr (.inr e))))
 have hcall:=fun W (hW:Kept aj w W)=>(next_any W b s mA mc lA lc pA pc x (hb.kept hW (fun z=>z)) (h.kept hW)).mono (fun e w' hp=>(show e=.returned (.int .i64 (mX s x))/\kX W b s x pA pc (.returned (.int .i64 (mX s x))) w' by
  rcases hp with⟨h1,h2,h3⟩|⟨h1,h2,h3⟩
  ·exact⟨h2,.inl ⟨h1,rfl,h3⟩⟩
  ·rw[h1];exact⟨h2,.inr ⟨h1,rfl,h3⟩⟩))
 obtain⟨Z,hZ⟩:∃Z,mX s x=Z:=⟨_,rfl⟩;rw[hZ]at hfin hcall;clear hZ;have bU:=ah hfin;clear hfin hE h0 h00 h hm hl hp hF;obtain⟨k,n,at2,ep,xw,xx,ms,fl,lA2,xA,lg,oA,oc,⟨ji,gK,ops⟩,ts,⟨p1,p2,p3⟩,⟨s1,s2,s3,s4⟩⟩:=x;simp only[aK]at hn0 hck hcall;dsimp only at hk;subst hk;have mY:=ah hck;have jK:=ah hnone;have bf:=ah hk0;have dW:=ah hn0;have HB:=ah hb;have gQ:=ah hcall;clear hck hnone hk0 hn0 hb hcall;go_enter Tryz.func33,Tryz.ntmps33;go_wp2_with fail;clear hW0;refine(jK.out _ bf.out).mono ?_;rintro e w2 ⟨rfl,hk⟩;have dV:=ah (dW.out.kept hk (fun z=>z));have HK:=ah (bf.out.then hk);clear hk;go_wp2_with (refine wpList_load_row rfl 78 (.tmp 3) rfl w.heap.size rfl 78 _ (0,0) _ dV.out Tryz.underlying78 rfl (by kernel_rfl) ?_);refine(mY.out _ HK.out).mono ?_;rintro e w3 ⟨rfl,hk⟩;have hn3:=dV.out.kept hk (fun z=>z);have q0:w3.cell? ⟨w.heap.size,0,none⟩=some (.int .i64 1):=hn3.cell 0;have mG:=ah hn3;have bu:=ah (HK.out.then hk);clear hk HK hn3;go_wp2_with (refine wpList_load_row rfl 78 (.tmp 3) rfl w.heap.size rfl 78 _ (0,0) _ mG.out Tryz.underlying78 rfl (by kernel_rfl) ?_);refine(gQ.out _ bu.out).mono ?_;rintro e w4 ⟨rfl,hpost⟩;have zV:=ah hpost;clear hpost;go_wp2;go_ret;exact bU.out _ _ bu.out zV.out
theorem U1(w:World)(b:Nat)(F:Nat->Prop)(s:bQ)(x:aG)(hs:fH w b F s)(hok:pY s)(h:iR w x)(h0:aT x=0)(hk:x.k=5):
  Calls Tryz.prog 33 #[.pointer (some ⟨b,0,none⟩),fU x] w (bY w b F s x):=by
 have h00:aT x=0:=h0;obtain⟨mA,mc,lA,lc,pA,pc,hF,hb,hm,hl,hp⟩:=hs;have hck:=fun W (hW:Kept aj w W)=>fB W x (h.kept hW);have hnone:=fun W (hW:Kept aj w W)=>dZ W b s mA mc lA lc pA pc true (hb.kept hW (fun z=>z));rw[h00]at hck;obtain⟨W0,hW0⟩:∃W0,w.alloc (.cells (aK x).toArray 78)=W0:=⟨_,rfl⟩;have hk0:Kept aj w W0:=by rw[<-hW0];(repeat'(first|(with_reducible first|exact ak|apply au|apply ay|apply aA|apply aB)|(right;simp;done)))
 have hn0:Has W0 w.heap.size 78 (aK x).toArray:=by rw[<-hW0];exact Has.new _ _ _
 have hE:bn s x=if cO s.ms x.n=true then 0 else 7:=by unfold bn;rw[if_neg (by simpa using h00),if_neg (by omega),if_pos hk]
 have hfin:∀w3 w',Kept aj w w3->xB w3 b s mA mc lA lc pA pc x.n (.returned (.int .i64 (if cO s.ms x.n=true then 0 else 7))) w'->bY w b F s x (.returned (.int .i64 (if cO s.ms x.n=true then 0 else 7))) w':=by
  intro w3 w' hk3 hpost;have hst:=(show fH w b F s from⟨mA,mc,lA,lc,pA,pc,hF,hb,hm,hl,hp⟩);rcases hpost with⟨h1,_,h2⟩|⟨h1,_,B,d,h2,h3,h4,h5⟩
  ·rw[<-hE];exact bY.bad hst (by rw[hE,h1];simp) (hk3.then h2)
  ·have hS:aP s x={s with lg:=kY s.lg x.n}:=by unfold aP;rw[if_neg (by rw[hE,h1];simp),if_neg (by omega),if_pos hk]
   have hmb:=own_ne hm hb (by decide);have hpb:=own_ne hp hb (by decide);have hsz:=hk3.size;have hF2:∀k,(k=b\/RowOf (.slice lA s.lg.length lc) k)->F k:=fun k e=>(hF k).2 (by rcases e with e|e;exact .inl e;exact .inr (.inr (.inl e)));have hml:∀k,RowOf (.slice mA s.ms.length mc) k->¬RowOf (.slice lA s.lg.length lc) k:=fun k h1 h2=>by obtain⟨cs,h3⟩:=jT hm h1;exact own_ne hl h3 (by decide) h2
   have hpl:∀k,RowOf (.slice pA s.pins.length pc) k->¬RowOf (.slice lA s.lg.length lc) k:=fun k h1 h2=>by obtain⟨cs,h3⟩:=jT hp h1;exact own_ne hl h3 (by decide) h2
   have iM:=(Kept.up (F:=fun k=>k=b\/RowOf (.slice lA s.lg.length lc) k) hk3).then h5;refine⟨fun k=>k=b\/RowOf (.slice mA s.ms.length mc) k\/RowOf (.slice B (kY s.lg x.n).length d) k\/RowOf (.slice pA s.pins.length pc) k,by rw[hE],?_,?_,iM.mono hF2⟩
   ·rw[hS];exact⟨mA,mc,B,d,pA,pc,fun k=>Iff.rfl,h2,aC hm iM (fun g hg e=>by rcases e with e|e;exact hmb (by rw[hg,e]);exact hml g hg e),h3,aC hp iM (fun g hg e=>by rcases e with e|e;exact hpb (by rw[hg,e]);exact hpl g hg e)⟩
   ·rintro k (e|e|e|e)
    ·exact .inl ((hF k).2 (.inl e))
    ·exact .inl ((hF k).2 (.inr (.inl e)))
    ·rcases h4 k e with h|h
     ·exact .inl ((hF k).2 (.inr (.inr (.inl h))))
     ·exact .inr (Nat.le_trans hsz h)
    ·exact .inl ((hF k).2 (.inr (.inr (.inr e))))
 have hcall:=fun W (hW:Kept aj w W)=>(XM W b s mA mc lA lc pA pc x.n (hb.kept hW (fun z=>z)) (Src.bF (aC hm hW (fun _ _ z=>z))) hok.m (aC hl hW (fun _ _ z=>z)) hok.l).mono (fun e w' hp=>(show e=.returned (.int .i64 (if cO s.ms x.n=true then 0 else 7))/\xB W b s mA mc lA lc pA pc x.n (.returned (.int .i64 (if cO s.ms x.n=true then 0 else 7))) w' by
  rcases hp with⟨h1,h2,h3⟩|⟨h1,h2,h3⟩
  ·rw[h1,if_neg (by simp)];exact⟨h2,.inl ⟨h1,rfl,h3⟩⟩
  ·rw[h1,if_pos rfl];exact⟨h2,.inr ⟨h1,rfl,h3⟩⟩))
 obtain⟨Z,hZ⟩:∃Z:Int,(if cO s.ms x.n=true then 0 else 7)=Z:=⟨_,rfl⟩;rw[hZ]at hfin hcall;clear hZ;have bU:=ah hfin;clear hfin hE h0 h00 h hm hl hp hF;obtain⟨k,n,at2,ep,xw,xx,ms,fl,lA2,xA,lg,oA,oc,⟨ji,gK,ops⟩,ts,⟨p1,p2,p3⟩,⟨s1,s2,s3,s4⟩⟩:=x;simp only[aK]at hn0 hck hcall;dsimp only at hk;subst hk;have mY:=ah hck;have jK:=ah hnone;have bf:=ah hk0;have dW:=ah hn0;have HB:=ah hb;have gQ:=ah hcall;clear hck hnone hk0 hn0 hb hcall;go_enter Tryz.func33,Tryz.ntmps33;go_wp2_with fail;clear hW0;refine(jK.out _ bf.out).mono ?_;rintro e w2 ⟨rfl,hk⟩;have dV:=ah (dW.out.kept hk (fun z=>z));have HK:=ah (bf.out.then hk);clear hk;go_wp2_with (refine wpList_load_row rfl 78 (.tmp 3) rfl w.heap.size rfl 78 _ (0,0) _ dV.out Tryz.underlying78 rfl (by kernel_rfl) ?_);refine(mY.out _ HK.out).mono ?_;rintro e w3 ⟨rfl,hk⟩;have hn3:=dV.out.kept hk (fun z=>z);have q0:w3.cell? ⟨w.heap.size,0,none⟩=some (.int .i64 5):=hn3.cell 0;have q1:w3.cell? ⟨w.heap.size,1,none⟩=some (.int .i64 n):=hn3.cell 1;have mG:=ah hn3;have bu:=ah (HK.out.then hk);clear hk HK hn3;go_wp2_with fail;refine(gQ.out _ bu.out).mono ?_;rintro e w4 ⟨rfl,hpost⟩;have zV:=ah hpost;clear hpost;go_wp2;go_ret;exact bU.out _ _ bu.out zV.out
theorem U2(w:World)(b:Nat)(F:Nat->Prop)(s:bQ)(x:aG)(hs:fH w b F s)(hok:pY s)(h:iR w x)(h0:aT x=0)(hk:x.k=6):
  Calls Tryz.prog 33 #[.pointer (some ⟨b,0,none⟩),fU x] w (bY w b F s x):=by
 have h00:aT x=0:=h0;obtain⟨mA,mc,lA,lc,pA,pc,hF,hb,hm,hl,hp⟩:=hs;have hck:=fun W (hW:Kept aj w W)=>fB W x (h.kept hW);have hnone:=fun W (hW:Kept aj w W)=>dZ W b s mA mc lA lc pA pc true (hb.kept hW (fun z=>z));rw[h00]at hck;obtain⟨W0,hW0⟩:∃W0,w.alloc (.cells (aK x).toArray 78)=W0:=⟨_,rfl⟩;have hk0:Kept aj w W0:=by rw[<-hW0];(repeat'(first|(with_reducible first|exact ak|apply au|apply ay|apply aA|apply aB)|(right;simp;done)))
 have hn0:Has W0 w.heap.size 78 (aK x).toArray:=by rw[<-hW0];exact Has.new _ _ _
 have hE:bn s x=oC s x.pin:=by unfold bn;rw[if_neg (by simpa using h00),if_neg (by omega),if_neg (by omega),if_neg (by omega),if_pos hk]
 have hfin:∀w3 w',Kept aj w w3->BM w3 b s mA mc lA lc pA pc x.pin (.returned (.int .i64 (oC s x.pin))) w'->bY w b F s x (.returned (.int .i64 (oC s x.pin))) w':=by
  intro w3 w' hk3 hpost;have hst:=(show fH w b F s from⟨mA,mc,lA,lc,pA,pc,hF,hb,hm,hl,hp⟩);rcases hpost with⟨h1,_,h2⟩|⟨h1,_,B,d,h2,h3,h4,h5⟩
  ·rw[<-hE];exact bY.bad hst (by rw[hE];exact h1) (hk3.then h2)
  ·have hS:aP s x=jy s x.pin:=by unfold aP;rw[if_neg (by rw[hE,h1];simp),if_neg (by omega),if_neg (by omega),if_neg (by omega),if_pos hk]
   have hS1:(jy s x.pin).ms=s.ms:=by unfold jy;split<;>rfl
   have hS2:(jy s x.pin).lg=s.lg:=by unfold jy;split<;>rfl
   have hmb:=own_ne hm hb (by decide);have hlb:=own_ne hl hb (by decide);have hsz:=hk3.size;have hF2:∀k,(k=b\/RowOf (.slice pA s.pins.length pc) k)->F k:=fun k e=>(hF k).2 (by rcases e with e|e;exact .inl e;exact .inr (.inr (.inr e)));have hmp:∀k,RowOf (.slice mA s.ms.length mc) k->¬RowOf (.slice pA s.pins.length pc) k:=fun k h1 h2=>by obtain⟨cs,h3⟩:=jT hm h1;exact own_ne hp h3 (by decide) h2
   have hlp:∀k,RowOf (.slice lA s.lg.length lc) k->¬RowOf (.slice pA s.pins.length pc) k:=fun k h1 h2=>by obtain⟨cs,h3⟩:=jT hl h1;exact own_ne hp h3 (by decide) h2
   have iM:=(Kept.up (F:=fun k=>k=b\/RowOf (.slice pA s.pins.length pc) k) hk3).then h5;refine⟨fun k=>k=b\/RowOf (.slice mA s.ms.length mc) k\/RowOf (.slice lA s.lg.length lc) k\/RowOf (.slice B (jy s x.pin).pins.length d) k,by rw[hE],?_,?_,iM.mono hF2⟩
   ·rw[hS];refine⟨mA,mc,lA,lc,B,d,fun k=>by rw[hS1,hS2],h2,?_,?_,h3⟩
    ·rw[hS1];exact aC hm iM (fun g hg e=>by rcases e with e|e;exact hmb (by rw[hg,e]);exact hmp g hg e)
    ·rw[hS2];exact aC hl iM (fun g hg e=>by rcases e with e|e;exact hlb (by rw[hg,e]);exact hlp g hg e)
   ·rintro k (e|e|e|e)
    ·exact .inl ((hF k).2 (.inl e))
    ·exact .inl ((hF k).2 (.inr (.inl e)))
    ·exact .inl ((hF k).2 (.inr (.inr (.inl e))))
    ·rcases h4 k e with h|h
     ·exact .inl ((hF k).2 (.inr (.inr (.inr h))))
     ·exact .inr (Nat.le_trans hsz h)
 have hcall:=fun W (hW:Kept aj w W)=>(KD W b s mA mc lA lc pA pc x.pin (hb.kept hW (fun z=>z)) (aC hp hW (fun _ _ z=>z)) hok.p).mono (fun e w' hp=>(show e=.returned (.int .i64 (oC s x.pin))/\BM W b s mA mc lA lc pA pc x.pin (.returned (.int .i64 (oC s x.pin))) w' by
  rcases hp with⟨h1,h2,h3⟩|⟨h1,h2,h3⟩
  ·exact⟨h2,.inl ⟨h1,rfl,h3⟩⟩
  ·rw[h1];exact⟨h2,.inr ⟨h1,rfl,h3⟩⟩))
 obtain⟨Z,hZ⟩:∃Z,oC s x.pin=Z:=⟨_,rfl⟩;rw[hZ]at hfin hcall;clear hZ;have bU:=ah hfin;clear hfin hE h0 h00 h hm hl hp hF;obtain⟨k,n,at2,ep,xw,xx,ms,fl,lA2,xA,lg,oA,oc,⟨ji,gK,ops⟩,ts,⟨p1,p2,p3⟩,⟨s1,s2,s3,s4⟩⟩:=x;simp only[aK]at hn0 hck hcall;dsimp only at hk;subst hk;have mY:=ah hck;have jK:=ah hnone;have bf:=ah hk0;have dW:=ah hn0;have HB:=ah hb;have gQ:=ah hcall;clear hck hnone hk0 hn0 hb hcall;go_enter Tryz.func33,Tryz.ntmps33;go_wp2_with fail;clear hW0;refine(jK.out _ bf.out).mono ?_;rintro e w2 ⟨rfl,hk⟩;have dV:=ah (dW.out.kept hk (fun z=>z));have HK:=ah (bf.out.then hk);clear hk;go_wp2_with (refine wpList_load_row rfl 78 (.tmp 3) rfl w.heap.size rfl 78 _ (0,0) _ dV.out Tryz.underlying78 rfl (by kernel_rfl) ?_);refine(mY.out _ HK.out).mono ?_;rintro e w3 ⟨rfl,hk⟩;have hn3:=dV.out.kept hk (fun z=>z);have q0:w3.cell? ⟨w.heap.size,0,none⟩=some (.int .i64 6):=hn3.cell 0;have q11:w3.cell? ⟨w.heap.size,11,none⟩=some (.int .i64 p1):=hn3.cell 11;have q12:w3.cell? ⟨w.heap.size,12,none⟩=some (.int .u64 p2):=hn3.cell 12;have q13:w3.cell? ⟨w.heap.size,13,none⟩=some (.int .i64 p3):=hn3.cell 13;have mG:=ah hn3;have bu:=ah (HK.out.then hk);clear hk HK hn3;go_wp2_with fail;refine(gQ.out _ bu.out).mono ?_;rintro e w4 ⟨rfl,hpost⟩;have zV:=ah hpost;clear hpost;go_wp2;go_ret;exact bU.out _ _ bu.out zV.out

/- Part 19 of what the proof needs. -/
import Derived.Test.YtolkgbafebehfaaGreatZP17
set_option linter.unusedSimpArgs false
set_option linter.unusedVariables false
set_option maxHeartbeats 32000000
set_option maxRecDepth 100000
namespace Go.Proofs.YtolkgbafebehfaaGreat
open Go.RowKit
set_option maxRecDepth 100000
namespace eF
open aP Vn Mst lJ
def wG(l:List aZ):Int:=match l.getLast? with|some p=>p.id|none=>0
def kE(l:List aZ)(id:Int):Int:=if 3<=l.length then 17 else if id<1\/1073741824<id then 1 else if 0<l.length/\id<=wG l then 18 else 0
theorem last_at{l:List aZ}{p:aZ}(h:l[l.length-1]? =some p):wG l=p.id:=by unfold wG;rw[List.getLast?_eq_getElem?,h]
theorem RU(w:World)(A:Option Addr)(c:Nat)(l:List aZ)(id at':Int)(hl:Src w 3 A l.length (aK l))(hlc:l.length<=c)(h0:kE l id≠0):
  Calls Tryz.prog 342 #[.slice A l.length c,.int .i64 id,.int .u64 at'] w fun e w'=>e=.returned (.tuple #[.slice none 0 0,.int .i64 (kE l id)])/\Kept aj w w':=by
 by_cases h1:3<=l.length
 ·have hE:kE l id=17:=by unfold kE;rw[if_pos h1]
  rw[hE]
  clear hE hl h0
  go_enter Tryz.func342,Tryz.ntmps342
  go_wp2
  go_ret2
  exact⟨rfl,Kept.refl _ _⟩
 by_cases h2:id<1
 ·have hE:kE l id=1:=by unfold kE;rw[if_neg h1,if_pos (.inl h2)]
  rw[hE]
  clear hE hl h0
  go_enter Tryz.func342,Tryz.ntmps342
  go_wp2
  go_ret2
  exact⟨rfl,Kept.refl _ _⟩
 by_cases h3:1073741824<id
 ·have hE:kE l id=1:=by unfold kE;rw[if_neg h1,if_pos (.inr h3)]
  rw[hE]
  clear hE hl h0
  go_enter Tryz.func342,Tryz.ntmps342
  go_wp2
  go_ret2
  exact⟨rfl,Kept.refl _ _⟩
 have hE0:kE l id=if 0<l.length/\id<=wG l then 18 else 0:=by unfold kE;rw[if_neg h1,if_neg (by omega)]
 by_cases h4:0<l.length/\id<=wG l
 ·have hE:kE l id=18:=by rw[hE0,if_pos h4]
  obtain⟨p,hp⟩:∃p,l[l.length-1]? =some p:=⟨_,List.getElem?_eq_getElem (by omega)⟩
  obtain⟨h4,h5⟩:=h4
  rw[last_at hp]at h5
  obtain⟨ad,rfl,had,x0,x1,x2⟩:=jU hl h4 (l.length-1) p hp
  rw[hE]
  clear hE hl hE0 h0 hp
  have hz:((l.length:Int)-1)=((l.length-1:Nat):Int):=by omega
  have hw:IntKind.i64.wrap ((l.length:Int)-1)=((l.length-1:Nat):Int):=by rw[hz];exact IntWalk.i64_in _ (by omega)
  go_enter Tryz.func342,Tryz.ntmps342
  go_wp2
  go_ret2
  exact⟨rfl,Kept.refl _ _⟩
 ·rw[hE0,if_neg h4]at h0;exact absurd rfl h0
def RV(w:World)(l:List aZ)(id at':Int)(e:Ending)(w':World):Prop:=
 ∃A c,e=.returned (.tuple #[.slice A (l.length+1) c,.int .i64 0])/\aF 79 3 w.heap.size w' A (l.length+1) c (aK (l++[⟨id,at',8⟩]))/\Kept aj w w'
theorem V6(w:World)(A:Option Addr)(c:Nat)(l:List aZ)(id at':Int)(hl:Src w 3 A l.length (aK l))(hlc:l.length<=c)(h0:kE l id=0):
  Calls Tryz.prog 342 #[.slice A l.length c,.int .i64 id,.int .u64 at'] w (RV w l id at'):=by
 have h1:¬3<=l.length:=fun h=>by unfold kE at h0;rw[if_pos h]at h0;cases h0
 have h23:¬(id<1\/1073741824<id):=fun h=>by unfold kE at h0;rw[if_neg h1,if_pos h]at h0;cases h0
 have h4:¬(0<l.length/\id<=wG l):=fun h=>by unfold kE at h0;rw[if_neg h1,if_neg h23,if_pos h]at h0;cases h0
 have h2:¬id<1:=by omega
 have h3:¬1073741824<id:=by omega
 have hclone:=rG w A c l hl (by omega)
 have o9:=ah hclone;clear hclone h0 h23
 have fQ:Hid (l.length+1<=maxLen):=ah (by unfold maxLen;omega)
 by_cases h5:0<l.length
 ·obtain⟨p,hp⟩:∃p,l[l.length-1]? =some p:=⟨_,List.getElem?_eq_getElem (by omega)⟩
  have h6:¬id<=p.id:=fun h=>h4 ⟨h5,by rw[last_at hp];exact h⟩
  obtain⟨ad,rfl,had,x0,x1,x2⟩:=jU hl h5 (l.length-1) p hp
  clear hl hp h4
  have hz:((l.length:Int)-1)=((l.length-1:Nat):Int):=by omega
  have hw:IntKind.i64.wrap ((l.length:Int)-1)=((l.length-1:Nat):Int):=by rw[hz];exact IntWalk.i64_in _ (by omega)
  go_enter Tryz.func342,Tryz.ntmps342
  go_wp2_with fail
  refine o9.out.mono ?_
  rintro e w2 ⟨A2,c2,rfl,hr,hk⟩
  have HR:=ah hr;have HK:=ah hk;clear hr hk
  go_wp2_with (at_builtin;refine aI yw (.tmp 35) (.tmp 39) rfl rfl (Value.slice A2 l.length c2) rfl (aC HR.out.1 (F:=aj) (by(repeat'(first|(with_reducible first|exact ak|apply au|apply ay|apply aA|apply aB)|(right;simp;done)))) (fun _ _ x=>x)) 1 rfl (Src.bW (t:=79) (size:=3) (m:=1) (cs:=#[.int .i64 id,.int .u64 at',.int .i64 8]) (by(repeat (with_reducible first|exact Has.bP _ _ _ (by simp)|apply Has.drew|apply Has.drewN|apply Has.alloc|(apply Has.past<;>(try omega))))) rfl) (by simp[Value.oneCell']) fQ.out (by omega) ?_;intro A1 c1 w9 ho1 hg1 ha1;have hpush:=aF.pushed HR.out (by(repeat'(first|(with_reducible first|exact ak|apply au|apply ay|apply aA|apply aB)|(exact HK.out)|(right;simp;done)))) ho1 hg1 ha1;have HP:=ah hpush;clear ho1 hg1 ha1 hpush)
  go_ret2
  exact⟨A1,c1,rfl,by rw[xW];exact HP.out.1,HP.out.2⟩
 ·clear h4 hl
  go_enter Tryz.func342,Tryz.ntmps342
  go_wp2_with fail
  refine o9.out.mono ?_
  rintro e w2 ⟨A2,c2,rfl,hr,hk⟩
  have HR:=ah hr;have HK:=ah hk;clear hr hk
  go_wp2_with (at_builtin;refine aI yw (.tmp 35) (.tmp 39) rfl rfl (Value.slice A2 l.length c2) rfl (aC HR.out.1 (F:=aj) (by(repeat'(first|(with_reducible first|exact ak|apply au|apply ay|apply aA|apply aB)|(right;simp;done)))) (fun _ _ x=>x)) 1 rfl (Src.bW (t:=79) (size:=3) (m:=1) (cs:=#[.int .i64 id,.int .u64 at',.int .i64 8]) (by(repeat (with_reducible first|exact Has.bP _ _ _ (by simp)|apply Has.drew|apply Has.drewN|apply Has.alloc|(apply Has.past<;>(try omega))))) rfl) (by simp[Value.oneCell']) fQ.out (by omega) ?_;intro A1 c1 w9 ho1 hg1 ha1;have hpush:=aF.pushed HR.out (by(repeat'(first|(with_reducible first|exact ak|apply au|apply ay|apply aA|apply aB)|(exact HK.out)|(right;simp;done)))) ho1 hg1 ha1;have HP:=ah hpush;clear ho1 hg1 ha1 hpush)
  go_ret2
  exact⟨A1,c1,rfl,by rw[xW];exact HP.out.1,HP.out.2⟩
def iO(f:Int)(l:List Int):Int:=l.foldl (fun a b=>min a b) f
theorem Me{f:Int}{l:List Int}{i:Nat}{x:Int}(h:l[i]? =some x):iO f (l.take (i+1))=min (iO f (l.take i)) x:=by
 obtain⟨hi,he⟩:=List.getElem?_eq_some_iff.1 h
 unfold iO
 rw[List.take_succ_eq_append_getElem hi,he,List.foldl_append]
 rfl
theorem Az{f:Int}{l:List Int}(hf:0<=f/\f<=aT)(h:∀x∈l,0<=x/\x<=aT):0<=iO f l/\iO f l<=aT:=by
 induction l generalizing f with
 |nil=>exact hf
 |cons a l ih=>
  have ha:=h a (List.mem_cons_self ..)
  exact ih (f:=min f a) (by omega) fun x hx=>h x (List.mem_cons_of_mem _ hx)
theorem OV{w:World}{A:Option Addr}{m:Nat}{l:List Int}(h:Src w 1 A m (l.map (Value.int .u64)))(hm:0<m)(i:Nat)(x:Int)(hx:l[i]? =some x):
  ∃ad,A=some ad/\ad.block<w.heap.size/\w.cell? (ad.add i)=some (.int .u64 x):=by
 obtain⟨ad,rfl,had,hcell⟩:=h.2 hm
 exact⟨ad,rfl,had,hcell i _ (by rw[List.getElem?_map,hx];rfl)⟩
theorem Ym(a b M:Int)(h:min a b=M)(W:World)(ts:Array TypeId)(t:TypeId):(Builtin.min_ ts t #[.int .u64 a,.int .u64 b]).run Tryz.prog W=.ok (.int .u64 M) W:=by
 rw[run_min_int2]
 split
 ·rw[show M=b by omega]
 ·rw[show M=a by omega]
theorem Gl(w:World)(f:Int)(A:Option Addr)(c:Nat)(l:List Int)(hl:Src w 1 A l.length (l.map (Value.int .u64)))(hlen:l.length<=1000000):
  Calls Tryz.prog 262 #[.int .u64 f,.slice A l.length c] w fun e w'=>e=.returned (.int .u64 (iO f l))/\w=w':=by
 have HL:=ah hl;clear hl
 go_enter Tryz.func262,Tryz.ntmps262
 go_wp2_with fail
 go_loop [0,9] (fun v0 v9=>∃i:Nat,i<=l.length/\v9=.int .i64 i/\v0=.int .u64 (iO f (l.take i))) (fun _ v9=>l.length-(intOf v9).toNat)
 case atStart=>exact⟨0,Nat.zero_le _,rfl,rfl⟩
 case round=>
  obtain⟨i,hi,rfl,rfl⟩:=hrel
  by_cases hil:i<l.length
  ·obtain⟨x,hx⟩:∃x,l[i]? =some x:=⟨_,List.getElem?_eq_getElem hil⟩
   obtain⟨ad,rfl,hl1,x0⟩:=OV HL.out (by omega) i x hx
   have hs:=Me (f:=f) hx
   obtain⟨a,ha⟩:∃a,iO f (l.take i)=a:=⟨_,rfl⟩
   obtain⟨M,hM⟩:∃M,min a x=M:=⟨_,rfl⟩
   rw[ha,hM]at hs
   rw[ha]
   have hmin:=fun W ts t=>Ym a x M hM W ts t
   have HS:=ah hs;clear hs ha hM hx
   go_wp2
   go_round
   case rel=>exact⟨i+1,by omega,by go_num,by rw[HS.out]⟩
   case measure=>simp[intOf];omega
  ·obtain rfl:i=l.length:=by omega
   rw[List.take_length]
   go_wp2
   go_ret
   exact⟨rfl,rfl⟩
end eF
namespace eF
open aP Vn Mst lJ
theorem V7(ad:Addr)(n c:Nat)(W:World):(Instr.slice 43 (.slice (some ad) (n+1) c) (some (.int .i64 1)) none none).run Tryz.prog W=.ok (.slice (if c=1 then some ad else some (ad.add 1)) n (c-1)) W:=by
 rw[run_slice_l (P:=Tryz.prog) (w:=W) 43 (some ad) (n+1) c (by kernel_rfl) .i64 1 (by omega) (by omega)]
 have hs:(sizeOf (Tryz.prog.elem 43)).run Tryz.prog W=.ok 1 W:=by kernel_rfl
 rw[hs]
 simp only[Result.andThen,sliced]
 by_cases hc:c=1
 ·subst hc;simp
 ·simp[hc]
theorem V8(w:World)(A:Option Addr)(c:Nat)(m:Int)(r:List Int)(hl:Src w 1 A (r.length+1) ((m::r).map (Value.int .u64)))(hlc:r.length+1<=c)(hlen:r.length<=1000000):
  Calls Tryz.prog 261 #[.slice A (r.length+1) c] w fun e w'=>e=.returned (.tuple #[.int .u64 (iO m r),.bool true])/\Kept aj w w':=by
 obtain⟨ad,rfl,had,hcell⟩:=hl.2 (by omega)
 have x0:w.cell? ad=some (.int .u64 m):=by simpa [Addr.add]using hcell 0 (.int .u64 m) rfl
 have hd:=Src.drop hl (k:=1) (by omega) hlc
 have hd2:Src w 1 (if c=1 then some ad else some (ad.add 1)) r.length (r.map (Value.int .u64)):=by simpa using hd
 obtain⟨A2,hA2⟩:∃A2,(if c=1 then some ad else some (ad.add 1))=A2:=⟨_,rfl⟩
 have hsl:=fun W=>V7 ad r.length c W
 rw[hA2]at hd2 hsl
 have RX:=fun W (hW:Kept aj w W)=>Gl W m A2 (c-1) r (hd2.kept hW (fun _ _ z=>z)) hlen
 have iL:=ah RX
 obtain⟨n,hn⟩:∃n,r.length=n:=⟨_,rfl⟩
 rw[hn]at hsl iL hlc hlen⊢
 have z0:((n:Int)+1==0)=false:=by simpa using(by omega:(n:Int)+1≠0)
 have z1:(((n+1:Nat):Int)==0)=false:=by simpa using(by omega:(n:Int)+1≠0)
 clear RX hd hd2 hl hcell hA2 hn
 go_enter Tryz.func261,Tryz.ntmps261
 go_wp2_with fail
 go_quiet ((go_at_call 262;exact Calls.quiet_of_same ((iL.out _ (by(repeat'(first|(with_reducible first|exact ak|apply au|apply ay|apply aA|apply aB)|(right;simp;done))))).mono fun e w' h=>⟨h.1,h.2.symm⟩)))
 go_wp2
 go_ret2
 exact⟨rfl,by(repeat'(first|(with_reducible first|exact ak|apply au|apply ay|apply aA|apply aB)|(right;simp;done)))⟩
theorem V9(w:World)(A:Option Addr)(c:Nat):
  Calls Tryz.prog 261 #[.slice A 0 c] w fun e w'=>e=.returned (.tuple #[.int .u64 0,.bool false])/\w=w':=by
 go_enter Tryz.func261,Tryz.ntmps261
 go_wp2
 go_ret2
 exact⟨rfl,rfl⟩
def yZ(old:Int)(marks:List Int)(pins:List aZ):Int:=match marks with
 |[]=>old
 |m::r=>max old (iO (iO m r-min (iO m r) 2) (pins.map fun p=>p.at'))
theorem NC:Elem Tryz.prog 43 23 1 8:=⟨Tryz.underlying43,⟨_,_,rfl,rfl,rfl,rfl,rfl⟩,by decide⟩
theorem Zu(w:World)(old:Int)(A B:Option Addr)(c n d:Nat):
  Calls Tryz.prog 150 #[.int .u64 old,.slice A 0 c,.slice B n d] w fun e w'=>e=.returned (.int .u64 old)/\w=w':=by
 go_enter Tryz.func150,Tryz.ntmps150
 go_wp2_with fail
 refine(V9 _ _ _).mono ?_
 rintro e w2 ⟨rfl,rfl⟩
 go_wp2
 go_ret
 exact⟨rfl,rfl⟩
theorem Zv(w:World)(old:Int)(A B:Option Addr)(c d:Nat)(m:Int)(r:List Int)(l:List aZ)(hm:Src w 1 A (r.length+1) ((m::r).map (Value.int .u64)))(hlc:r.length+1<=c)(hlen:r.length<=1000000)(hl:Src w 3 B l.length (aK l))(hll:l.length<=1000000)
  (hold:0<=old/\old<=aT) (hmr:∀x∈m::r,0<=x/\x<=aT):
  Calls Tryz.prog 150 #[.int .u64 old,.slice A (r.length+1) c,.slice B l.length d] w fun e w'=>e=.returned (.int .u64 (yZ old (m::r) l))/\Kept aj w w':=by
 have hmin:=V8 w A c m r hm hlc hlen
 have uk:=Az (f:=m) (l:=r) (hmr m (List.mem_cons_self ..)) (fun x hx=>hmr x (List.mem_cons_of_mem _ hx))
 have hH:yZ old (m::r) l=max old (iO (iO m r-min (iO m r) 2) (l.map fun p=>p.at')):=rfl
 rw[hH]
 obtain⟨M,hM⟩:∃M,iO m r=M:=⟨_,rfl⟩
 obtain⟨K,hK⟩:∃K,min M 2=K:=⟨_,rfl⟩
 obtain⟨D,hD⟩:∃D,M-K=D:=⟨_,rfl⟩
 obtain⟨L,hL⟩:∃L,iO D (l.map fun p=>p.at')=L:=⟨_,rfl⟩
 obtain⟨X,hX⟩:∃X,max old L=X:=⟨_,rfl⟩
 rw[hM]at hmin uk⊢
 rw[hK,hD,hL,hX]
 have Gm:0<=K/\K<=M:=by omega
 have hsub:IntKind.u64.wrap (M-K)=D:=by
  rw[<-hD]
  unfold aT at uk
  exact IntWalk.u64_in _ (by omega)
 have aaD:=ah hmin;have HL:=ah hl;have qy:=ah hL;have Wh:=ah hsub
 have OW:=fun W ts t=>Ym M 2 K hK W ts t
 have OX:=fun W ts t=>D3 old L X hX W ts t
 have HMF:=ah OW;have HXF:=ah OX
 clear hmin hl hL hX hK hD hM hH hsub OW OX hm hmr uk hold Gm
 obtain⟨n,hn⟩:∃n,r.length=n:=⟨_,rfl⟩
 rw[hn]at aaD⊢
 clear hn hlc hlen
 go_enter Tryz.func150,Tryz.ntmps150
 go_wp2_with fail
 refine aaD.out.mono ?_
 rintro e w2 ⟨rfl,hk2⟩
 have aQ:=ah hk2;clear hk2
 go_wp2_with fail
 go_loopw [9,22] (fun v9 v22 wr=>∃(i:Nat) (C:Option Addr) (c':Nat),i<=l.length/\v22=.int .i64 i/\v9=.slice C (l.take i).length c'/\aF 23 1 w.heap.size wr C (l.take i).length c' ((l.take i).map fun p=>Value.int .u64 p.at')/\Kept aj w wr) (fun _ v22 _=>l.length-(intOf v22).toNat)
 case atStart=>exact⟨0,none,0,Nat.zero_le _,rfl,rfl,aF.nil _ _ _ _,aQ.out⟩
 case round=>
  obtain⟨i,C,c',hi,rfl,rfl,hr,hk⟩:=hrel
  have HR:=ah hr;have HK:=ah hk;clear hr hk
  by_cases hil:i<l.length
  ·obtain⟨p,hp⟩:∃p,l[i]? =some p:=⟨_,List.getElem?_eq_getElem hil⟩
   obtain⟨ad,rfl,hl1,x0,x1,x2⟩:=jU (HL.out.kept HK.out (fun _ _ x=>x)) (by omega) i p hp
   have hts:l.take (i+1)=l.take i++[p]:=aP.take_snoc hp
   have hb:(l.take i).length<=1000000:=by rw[List.length_take];omega
   obtain⟨T,hT⟩:∃T,l.take i=T:=⟨_,rfl⟩
   rw[hT]at hts HR hb⊢
   have RY:=ah hts
   have fQ:Hid (T.length+1<=maxLen):=ah (by unfold maxLen;omega)
   have iC:Hid ((T.length+1)*8<=140737488355328):=ah (by omega)
   clear hp hts hT hb
   go_wp2_with (at_builtin;refine aI NC (.tmp 26) (.tmp 29) rfl rfl (Value.slice C T.length c') rfl (aC HR.out.1 (F:=aj) (by(repeat'(first|(with_reducible first|exact ak|apply au|apply ay|apply aA|apply aB)|(right;simp;done)))) (fun _ _ x=>x)) 1 rfl (Src.bW (t:=23) (size:=1) (m:=1) (cs:=#[.int .u64 p.at']) (by(repeat (with_reducible first|exact Has.bP _ _ _ (by simp)|apply Has.drew|apply Has.drewN|apply Has.alloc|(apply Has.past<;>(try omega))))) rfl) (by simp[Value.oneCell']) fQ.out iC.out ?_;intro A1 c1 w9 ho1 hg1 ha1;have hpush:=aF.pushed HR.out (by(repeat'(first|(with_reducible first|exact ak|apply au|apply ay|apply aA|apply aB)|(exact HK.out)|(right;simp;done)))) ho1 hg1 ha1;have HP:=ah hpush;clear ho1 hg1 ha1 hpush)
   go_roundw
   case rel=>exact⟨i+1,A1,c1,by omega,by go_num,by rw[RY.out,List.length_append];rfl,by rw[RY.out,List.length_append,List.map_append];exact HP.out.1,HP.out.2⟩
   case measure=>simp[intOf];omega
  ·obtain rfl:i=l.length:=by omega
   rw[List.take_length]at HR⊢
   have hlm:(l.map fun p=>p.at').length=l.length:=List.length_map _
   have hsrc:Src wr 1 C (l.map fun p=>p.at').length ((l.map fun p=>p.at').map (Value.int .u64)):=by
    rw[hlm,List.map_map]
    exact Src.bC HR.out.1
   have hcall:=Gl wr D C c' (l.map fun p=>p.at') hsrc (by rw[hlm];omega)
   rw[qy.out,hlm]at hcall
   have HC:=ah hcall
   clear hsrc hcall hlm
   have OW:=HMF.out
   have OX:=HXF.out
   have hsub:=Wh.out
   go_wp2_with fail
   refine HC.out.mono ?_
   rintro e w5 ⟨rfl,rfl⟩
   go_wp2
   go_ret
   exact⟨rfl,HK.out⟩
def ND(w:World)(l:List Mem)(e:Ending)(w':World):Prop:=∃A c,e=.returned (.slice A l.length c)/\aF 3 1 w.heap.size w' A l.length c (ints (ids l))/\Kept aj w w'
theorem Zw(w:World)(ep fl:Int)(A:Option Addr)(c:Nat)(l:List Mem)(hl:Src w 2 A l.length (aS l))(hlen:l.length<=1000):
  Calls Tryz.prog 45 #[mP ep A l.length c fl] w (ND w l):=by
 have HL:=ah hl;clear hl
 go_enter Tryz.func45,Tryz.ntmps45
 go_wp2_with fail
 go_loopw [3,9] (fun v3 v9 wr=>∃(i:Nat) (C:Option Addr) (c':Nat),i<=l.length/\v9=.int .i64 i/\v3=.slice C (l.take i).length c'/\aF 3 1 w.heap.size wr C (l.take i).length c' (ints ((l.take i).map (·.1)))/\Kept aj w wr) (fun _ v9 _=>l.length-(intOf v9).toNat)
 case atStart=>exact⟨0,none,0,Nat.zero_le _,rfl,rfl,aF.nil _ _ _ _,by(repeat'(first|(with_reducible first|exact ak|apply au|apply ay|apply aA|apply aB)|(right;simp;done)))⟩
 case round=>
  obtain⟨i,C,c',hi,rfl,rfl,hr,hk⟩:=hrel
  have HR:=ah hr;have HK:=ah hk;clear hr hk
  by_cases hil:i<l.length
  ·obtain⟨p,hp⟩:∃p,l[i]? =some p:=⟨_,List.getElem?_eq_getElem hil⟩
   obtain⟨ad,rfl,hl1,x0,x1⟩:=ig (HL.out.kept HK.out (fun _ _ x=>x)) (by omega) i p hp
   have hts:l.take (i+1)=l.take i++[p]:=aP.take_snoc hp
   have hb:(l.take i).length<=1000:=by rw[List.length_take];omega
   obtain⟨T,hT⟩:∃T,l.take i=T:=⟨_,rfl⟩
   rw[hT]at hts HR hb⊢
   have RY:=ah hts
   have fQ:Hid (T.length+1<=maxLen):=ah (by unfold maxLen;omega)
   have iC:Hid ((T.length+1)*8<=140737488355328):=ah (by omega)
   clear hp hts hT hb
   go_wp2_with (at_builtin;refine aI aP.jF (.tmp 13) (.tmp 16) rfl rfl (Value.slice C T.length c') rfl (aC HR.out.1 (F:=aj) (by(repeat'(first|(with_reducible first|exact ak|apply au|apply ay|apply aA|apply aB)|(right;simp;done)))) (fun _ _ x=>x)) 1 rfl (Src.bW (t:=3) (size:=1) (m:=1) (cs:=#[.int .i64 p.1]) (by(repeat (with_reducible first|exact Has.bP _ _ _ (by simp)|apply Has.drew|apply Has.drewN|apply Has.alloc|(apply Has.past<;>(try omega))))) rfl) (by simp[Value.oneCell']) fQ.out iC.out ?_;intro A1 c1 w9 ho1 hg1 ha1;have hpush:=aF.pushed HR.out (by(repeat'(first|(with_reducible first|exact ak|apply au|apply ay|apply aA|apply aB)|(exact HK.out)|(right;simp;done)))) ho1 hg1 ha1;have HP:=ah hpush;clear ho1 hg1 ha1 hpush)
   go_roundw
   case rel=>exact⟨i+1,A1,c1,by omega,by go_num,by rw[RY.out,List.length_append];rfl,by rw[RY.out,List.length_append,List.map_append];simpa [ints]using HP.out.1,HP.out.2⟩
   case measure=>simp[intOf];omega
  ·obtain rfl:i=l.length:=by omega
   rw[List.take_length]at HR⊢
   have hcall:=Gj (w:=wr) (B:=0) (A:=C) (c:=c') (ss:=l.map (·.1)) (n:=l.length) (by simp) HR.out.1 (by simp;omega)
   have HC:=ah hcall;clear hcall
   go_wp2_with fail
   refine HC.out.mono ?_
   rintro e w5 ⟨rfl,ho,hk5⟩
   have hk:=HK.out.trans hk5 (fun k hk=> .inr (HR.out.2 k hk))
   have HO:=ah ho;have HKK:=ah hk;clear ho hk hk5
   go_wp2
   go_ret
   exact⟨C,c',rfl,⟨HO.out,HR.out.2⟩,HKK.out⟩
end eF
end Go.Proofs.YtolkgbafebehfaaGreat
namespace Go.Proofs.YtolkgbafebehfaaGreat
open Go.RowKit Go.Maps
set_option maxRecDepth 100000
namespace IM
open aP
def dX(q:IntKind)(e:TypeId)(w:World)(b n:Nat)(f:Int->Option Int):Prop:=
 ∃D:DataW Unit,w.ownsMap Tryz.prog 3 (plainElem Tryz.prog e) b n D/\∀k,I64 k->has D (.int .i64 k)=(f k).isSome/\D.atKey (.int .i64 k) (.lit (.int q 0))=.lit (.int q ((f k).getD 0))
def y8(f:Int->Option Int)(k:Int)(v:Option Int):Int->Option Int:=fun x=>if x=k then v else f x
section
variable{q:IntKind}{e t:TypeId}{w w':World}{b n:Nat}{f:Int->Option Int}{k:Int}
theorem dX.lt(h:dX q e w b n f):b<w.heap.size:=by
 obtain⟨D,h,_⟩:=h
 exact h.lt
theorem dX.kept{F:Nat->Prop}(h:dX q e w b n f)(hk:Kept F w w')(hf:¬F b):dX q e w' b n f:=by
 obtain⟨D,ho,hD⟩:=h
 have hlt:=ho.lt
 obtain⟨es,clock,hb,hF,hs,e⟩:=ho
 exact⟨D,⟨es,clock,(hk.block b hlt hf).trans hb,hF,hs,e⟩,hD⟩
theorem dX.made(q:IntKind)(e:TypeId)(w:World):dX q e (w.alloc (.map #[] 0)) w.heap.size 0 (fun _=>none):=⟨_,World.ownsMap_made w _ _ _,fun k hk=>⟨rfl,rfl⟩⟩
theorem dX.mono(h:dX q e w b n f){m:Nat}(hm:n<=m):dX q e w b m f:=by
 obtain⟨D,ho,hD⟩:=h
 exact⟨D,ho.mono hm,hD⟩
theorem dX.map(h:dX q e w b n f):∃es c,w.heap[b]? =some (.map es c):=by
 obtain⟨D,⟨es,c,hb,_⟩,_⟩:=h
 exact⟨es,c,hb⟩
theorem wf0(q:IntKind):(Lit.int q 0).wf=true:=by cases q<;>decide
theorem dX.look(h:dX q e w b n f)(ht:Tryz.prog.underlying t=some (.map 3 e))(he:Tryz.prog.underlying e=some (.int q))(hz:(zeroValue e).run Tryz.prog w=.ok (.int q 0) w)(hk:I64 k):
  (Instr.lookup t (.map (some b)) (.int .i64 k) false).run Tryz.prog w=.ok (.int q ((f k).getD 0)) w:=by
 obtain⟨D,ho,hD⟩:=h
 obtain⟨c,hrun,hat,_⟩:=ho.lookup_int jy ht he hz (pF hk)
 rw[(hD k hk).2]at hat
 injection hat with hat
 injection hat with _ hat
 rw[hrun,hat]
theorem dX.look_ok(h:dX q e w b n f)(ht:Tryz.prog.underlying t=some (.map 3 e))(he:Tryz.prog.underlying e=some (.int q))(hz:(zeroValue e).run Tryz.prog w=.ok (.int q 0) w)(hk:I64 k):
  (Instr.lookup t (.map (some b)) (.int .i64 k) true).run Tryz.prog w=.ok (.tuple #[.int q ((f k).getD 0),.bool (f k).isSome]) w:=by
 obtain⟨D,ho,hD⟩:=h
 obtain⟨v,ps,hrun,hv⟩:=ho.look_ok jy ht hz (plainElem_int he (wf0 q)) (pF hk)
 rw[(hD k hk).2]at hv
 obtain⟨c,rfl,hc,_⟩:=plainElem_int_inv he hv
 simp only[Prod.mk.injEq]at hc
 obtain⟨hc,_⟩:=hc
 injection hc with hc
 injection hc with _ hc
 rw[hrun,hc,(hD k hk).1]
theorem dX.store(h:dX q e w b n f)(ht:Tryz.prog.underlying t=some (.map 3 e))(he:Tryz.prog.underlying e=some (.int q))(hn:n<maxLen)(hk:I64 k){x:Int}(hx:(Lit.int q x).wf=true):
  ∃w',(Instr.mapUpdate t (.map (some b)) (.int .i64 k) (.int q x)).run Tryz.prog w=.ok () w'/\dX q e w' b (n+1) (y8 f k (some x))/\Kept (fun i=>i=b) w w':=by
 obtain⟨D,ho,hD⟩:=h
 obtain⟨w',hrun,ho',hg⟩:=ho.update jy ht hn (pF hk) (plainElem_int he hx)
 refine⟨w',hrun,⟨_,ho',?_⟩,(Kept.refl _ _).grownBy hg fun i hi=>by injection hi with hi;exact .inl hi.symm⟩
 intro y hy
 have hm:IsMap D:=ho.isMap
 have hl:WideAt.IsKeyLit (.int .i64 k):=by trivial
 by_cases e1:y=k
 ·subst e1
  rw[has_put_same hm hl,atKey_put_same hm hl]
  simp[y8]
 ·have hne:(Lit.int .i64 y)≠ .int .i64 k:=fun h=>e1 (by injection h)
  rw[has_put_other hne,atKey_put_other hne]
  have:=hD y hy
  simpa [y8,e1]using this
theorem uQ{w:World}{b c:Nat}{es:Array MapEntry}{t k e:TypeId}(ht:Tryz.prog.underlying t=some (.map k e))(hb:w.heap[b]? =some (.map es c))(ty:TypeId):
  (Builtin.clear_ #[t] ty #[.map (some b)]).run Tryz.prog w=.ok (.tuple #[]) (ChangeMaps.setBlock w b (.map #[] c)):=by
 simp[Builtin.clear_,run_underlying ht,MapKept.run_getObj_map hb,MapKept.run_setObj_map _ hb,Result.andThen,ChangeMaps.setBlock]
theorem Eh{D:DataW Unit}{R:Value->Option (DataW Unit×List MemPlace)}(h:w.ownsMap Tryz.prog 3 R b n D)(ht:Tryz.prog.underlying t=some (.map 3 e))(ty:TypeId):
  ∃w',(Builtin.clear_ #[t] ty #[.map (some b)]).run Tryz.prog w=.ok (.tuple #[]) w'/\w'.ownsMap Tryz.prog 3 R b n (.map [])/\Kept (fun i=>i=b) w w':=by
 obtain⟨es,c,hb,hF,hs,rfl⟩:=h
 refine⟨_,uQ ht hb ty,⟨#[],c,ChangeMaps.heap_setBlock_same hb _,⟨by simp,MapKept.stamped_empty c,by simp⟩,by simp,rfl⟩,⟨rfl,rfl,rfl,by simp[ChangeMaps.setBlock],fun i _ hi=>ChangeMaps.heap_setBlock_other hb _ (fun e=>hi e)⟩⟩
theorem dX.clear(h:dX q e w b n f)(ht:Tryz.prog.underlying t=some (.map 3 e))(ty:TypeId):
  ∃w',(Builtin.clear_ #[t] ty #[.map (some b)]).run Tryz.prog w=.ok (.tuple #[]) w'/\dX q e w' b n (fun _=>none)/\Kept (fun i=>i=b) w w':=by
 obtain⟨D,ho,hD⟩:=h
 obtain⟨w',hrun,ho',hk⟩:=Eh ho ht ty
 exact⟨w',hrun,⟨_,ho',fun k hk=>⟨rfl,rfl⟩⟩,hk⟩
end
section
variable{w w':World}{b n:Nat}{s:Int->Bool}{k:Int}
theorem bJ.mono(h:bJ w b n s){m:Nat}(hm:n<=m):bJ w b m s:=by
 obtain⟨D,ho,hD⟩:=h
 exact⟨D,ho.mono hm,hD⟩
theorem bJ.drop(h:bJ w b n s)(hk:I64 k)(ty:TypeId):
  ∃w',(Builtin.delete_ #[62,3] ty #[.map (some b),.int .i64 k]).run Tryz.prog w=.ok (.tuple #[]) w'/\bJ w' b n (fun y=> !decide (y=k)&&s y)/\Kept (fun i=>i=b) w w':=by
 obtain⟨D,ho,hD⟩:=h
 obtain⟨w',hrun,ho',htu⟩:=ho.drop jy Tryz.underlying62 (pF hk) ty
 refine⟨w',hrun,⟨_,ho',?_⟩,(Kept.refl _ _).grownBy htu.grown fun i hi=>by injection hi with hi;exact .inl hi.symm⟩
 intro y hy
 by_cases e1:y=k
 ·subst e1
  rw[atKey_del_same]
  simp
 ·have hne:(Lit.int .i64 y)≠ .int .i64 k:=fun h=>e1 (by injection h)
  rw[atKey_del_other hne,hD y hy]
  simp[e1]
theorem bJ.clear(h:bJ w b n s)(ty:TypeId):
  ∃w',(Builtin.clear_ #[62] ty #[.map (some b)]).run Tryz.prog w=.ok (.tuple #[]) w'/\bJ w' b n (fun _=>false)/\Kept (fun i=>i=b) w w':=by
 obtain⟨D,ho,hD⟩:=h
 obtain⟨w',hrun,ho',hk⟩:=Eh ho Tryz.underlying62 ty
 exact⟨w',hrun,⟨_,ho',fun k hk=>rfl⟩,hk⟩
theorem bJ.map(h:bJ w b n s):∃es c,w.heap[b]? =some (.map es c):=by
 obtain⟨D,⟨es,c,hb,_⟩,_⟩:=h
 exact⟨es,c,hb⟩
end
end IM
end Go.Proofs.YtolkgbafebehfaaGreat

/- Part 19. -/
import Derived.Test.YtomccaocggplgaaGreatMP17
import Derived.Shelf.Slices.Cells
import Derived.Shelf.Slices.Clone
set_option linter.unusedSimpArgs false
set_option linter.unusedVariables false
set_option maxHeartbeats 32000000
set_option maxRecDepth 100000
namespace Go.Proofs.YtomccaocggplgaaGreat
open Go.RowKit
namespace Wl
open aH Fr Vn Ops
def abI(w:World)(g:Nat)(first:Int)(L:List Sg)(e:Ending)(w':World):Prop:=
 ∃gw A c,e=.returned (.tuple #[.pointer (some ⟨gw,0,none⟩),.slice A (eG L).length c,.int .i64 0])/\Has w' gw 203 #[.pointer (some ⟨g,0,none⟩),.int .i64 (zx first L)]/\w.heap.size<=gw/\
  aF 9 1 w.heap.size w' A (eG L).length c (dn (eG L))/\Below w.heap.size w w'
theorem open_any(w:World)(g nn:Nat)(F:Nat->Prop)(m:aH.Safe)(ps:List aH.Pc)(aX aQ first:Int)(K:Nat)(ls:List Sg)
  (hd:aZ w g F nn m ps aX aQ) (hpi:∀p∈ps,I64 p.1) (hnn:nn<=100000) (hps:ps.length<=100000) (hsz:∀f,(dU m f).size+total ps<=140737488355328)
  (h1:1<=first) (h1':first<=1073741824) (h2:first+K<=4611686018427387904) (hK:cu m ps (first+K)=false) (hls:ls.map (·.1)=jY (cu m ps) (dataOf m ps) K first) (hlen:ls.length<=1000000):
  Calls Tryz.prog 72 #[.pointer (some ⟨g,0,none⟩),.int .i64 first] w (abI w g first ls):=by
 have hr:=Dh w g nn F m ps aX aQ first K ls hd hpi hnn hps hsz h1 h1' h2 hK hls hlen
 have HR:=ah hr;clear hr hd hpi hnn hps hsz h2 hK hls hlen;go_enter Tryz.func72,Tryz.ntmps72;go_wp2_with fail;refine HR.out.mono ?_;rintro e w1 ⟨A,c,rfl,hn,hb⟩;have HN:=ah hn;have HB:=ah hb;clear hn hb;go_wp2;go_ret3;have hk:Kept aj w1 (w1.alloc (.cells #[.pointer (some ⟨g,0,none⟩),.int .i64 (zx first ls)] 203)):=(Kept.refl _ _).alloc _;exact⟨w1.heap.size,A,c,rfl,Has.new _ _ _,HB.out.size,HN.out.kept hk,HB.out.alloc HB.out.size _⟩
abbrev D3(w:World)(gw g:Nat)(last:Int):Prop:=Has w gw 203 #[.pointer (some ⟨g,0,none⟩),.int .i64 last]
section
variable{F:Nat->Prop}{w:World}{g gw n:Nat}{m:aH.Safe}{ps:List aH.Pc}{aX aQ last:Int}
theorem xq(h:D3 w gw g last):Calls Tryz.prog 187 #[.pointer (some ⟨gw,0,none⟩)] w fun e w'=>e=.returned (.bool false)/\w=w':=by have c0:w.cell? ⟨gw,0,none⟩=some (.pointer (some ⟨g,0,none⟩)):=h.cell 0;clear h;go_enter Tryz.func187,Tryz.ntmps187;go_wp2;go_ret;exact⟨rfl,rfl⟩
theorem aZ.ne(h:aZ w g F n m ps aX aQ)(hw:D3 w gw g last):¬F gw:=by
 obtain⟨mb,A,c,hF,hg,hm,ho⟩:=h;intro hf;rcases(hF gw).1 hf with rfl|rfl|h
 ·exact hg.ne hw (by decide) rfl
 ·exact hm.ne hw rfl
 ·exact own_ne ho hw (by decide) h
def aes(w:World)(g gw:Nat)(F:Nat->Prop)(n:Nat)(m:aH.Safe)(ps:List aH.Pc)(aX aQ last:Int)(e:Ending)(w':World):Prop:=
 e=.returned (.int .i64 0)/\∃F',aZ w' g F' n m ps aX aQ/\jG w F F'/\D3 w' gw g (if 256<=(dataOf m ps last).size then last+1 else last)/\Kept (fun k=>F k\/k=gw) w w'
theorem Vf(h:aZ w g F n m ps aX aQ)(hw:D3 w gw g last)(s:ByteArray)(hs:s.size<=65536)(hl1:1<=last)(hl2:last<=1073741824)(hlen:ps.length<100000)
  (hsz:(dU m last).size+total ps<=140737488000000):
  Calls Tryz.prog 110 #[.pointer (some ⟨gw,0,none⟩),.string s] w (aes w g gw F n m (ps++[(last,bI (bM (bl s)))]) aX aQ last):=by
 have hno:=xq hw;have hfl:(bM (bl s)).length<=65549:=by rw[oN,bP];have:=nD (n:=s.size) (by omega);omega
 have hne:=aZ.ne h hw;have hgl:=hw.lt;have hwr:=fun(W:World) (hk:Kept aj w W)=>abw (h.kept hk (fun _ _ z=>z)) last (bI (bM (bl s))) hl1 hl2 (by omega);have Po:I64 last:=gY (by omega) (by omega);obtain⟨fr,hfr⟩:∃fr,bI (bM (bl s))=fr:=⟨_,rfl⟩;have hfz:fr.size<=65549:=by rw[<-hfr,nI];exact hfl
 have hfp:=abo w s hs;rw[hfr]at hwr hfp⊢;have hda:∀(W:World) (F2:Nat->Prop),aZ W g F2 n m (ps++[(last,fr)]) aX aQ->_:=fun W F2 h2=>zq h2 last Po (by simp;omega) (by rw[rY];dsimp only;omega);have jK:=ah hno;have HFP:=ah hfp;have qU:=ah hwr;have GK:=ah hda;have HW:=ah hw;have DK:=ah hne;have sJ:=ah h.lt;have HL:Hid (last<=1073741824):=ah hl2;have hw1:IntKind.i64.wrap (last+1)=last+1:=IntWalk.i64_in _ (by omega);clear hno hfp hwr hda hw hne h hfr hsz hfl hlen hfz Po hs;go_enter Tryz.func110,Tryz.ntmps110;go_wp2_with fail;refine jK.out.mono ?_;rintro e w' ⟨rfl,rfl⟩;go_wp2_with fail;refine HFP.out.mono ?_;rintro e w1 ⟨rfl,hk1⟩;have gB:=ah hk1;have abJ:=HW.out.kept hk1 (fun z=>z);have c0:w1.cell? ⟨gw,0,none⟩=some (.pointer (some ⟨g,0,none⟩)):=abJ.cell 0;have c1:w1.cell? ⟨gw,1,none⟩=some (.int .i64 last):=abJ.cell 1;clear hk1 abJ;go_wp2_with fail;refine wp_region_still_tail 9 (by kernel_rfl) (by kernel_rfl) ?_;simp only[List.take_succ_cons,List.take_zero,List.drop_succ_cons,List.drop_zero];change wpStill _ _ (World.drew w1) _ _ _;repeat still_step
 refine wpStill_nil ?_;change wpList _ _ _ _ _ (World.drew w1);go_wp2_with fail;refine(qU.out _ gB.out.drew).mono ?_;rintro e w2 ⟨rfl,F2,h2,g2,k2⟩;have hw2:=(HW.out.kept gB.out.drew (fun z=>z)).kept k2 DK.out;have d0:w2.cell? ⟨gw,0,none⟩=some (.pointer (some ⟨g,0,none⟩)):=hw2.cell 0;have d1:w2.cell? ⟨gw,1,none⟩=some (.int .i64 last):=hw2.cell 1;have hk2:Kept F w w2:=((gB.out.drew).mono (fun _ z=>z.elim)).then k2;have H2:=ah h2;have HW2:=ah hw2;have aV:=ah hk2;have g2':jG w F F2:=(fun k hk=>by rcases g2 k hk with z|z;exact .inl z;exact .inr (Nat.le_trans (gB.out.drew).size z));have nJ:=ah g2';clear g2';clear h2 g2 k2 hw2 hk2 c0 c1;go_wp2_with fail;refine wp_region_still_tail 8 (by kernel_rfl) (by kernel_rfl) ?_;simp only[List.take_succ_cons,List.take_zero,List.drop_succ_cons,List.drop_zero];change wpStill _ _ (World.drew w2) _ _ _;repeat still_step
 refine wpStill_nil ?_;change wpList _ _ _ _ _ (World.drew w2);go_wp2_with fail;have hkd:Kept aj w2 w2.drew:=(Kept.refl _ w2).drew;refine(GK.out _ F2 (H2.out.kept hkd (fun _ _ z=>z))).mono ?_;rintro e w3 ⟨rfl,hk3⟩;obtain⟨D,hD⟩:∃D,dataOf m (ps++[(last,fr)]) last=D:=⟨_,rfl⟩;rw[hD];have hw3:=(HW2.out.kept hkd (fun z=>z)).kept hk3 (fun z=>z);have b1:w3.cell? ⟨gw,1,none⟩=some (.int .i64 last):=hw3.cell 1;have f1:=hw3.frozen 1;have hF2:¬F2 gw:=fun hh=>by rcases nJ.out gw hh with h|h;exact DK.out h;have:=HW.out.lt;omega
 have HW3:=ah hw3;have HF2:=ah hF2;have HDD:=ah hD;clear hw3 hF2 hD d0 d1;have bu:=ah (hkd.then hk3);clear hkd hk3;by_cases hb:256<=D.size
 ·have hb':(256:Int)<=(D.size:Int):=by omega
  have HB:=ah hb;clear hb;go_wp2;go_ret;have hk4:Kept (fun k=>k=gw) w3 (w3.setCell ⟨gw,1,none⟩ (.int .i64 (last+1))):=(Kept.refl _ w3).put (.inl rfl);refine⟨rfl,F2,(H2.out.kept bu.out (fun _ _ z=>z)).kept hk4 (fun k hk e=>HF2.out (e▸hk)),nJ.out,?_,?_⟩
  ·rw[HDD.out,if_pos HB.out];exact HW3.out.dH rfl
  ·exact((aV.out.mono (fun k h=> .inl h)).then (bu.out.mono (fun _ z=>z.elim))).put (.inl (.inr rfl))
 ·have hb':¬(256:Int)<=(D.size:Int):=by omega
  have HB:=ah hb;clear hb;go_wp2;go_ret;refine⟨rfl,F2,(H2.out.kept bu.out (fun _ _ z=>z)),nJ.out,?_,?_⟩
  ·rw[HDD.out,if_neg HB.out];exact HW3.out
  ·exact(aV.out.mono (fun k h=> .inl h)).then (bu.out.mono (fun _ z=>z.elim))
end
end Wl
namespace Wl
open aH Fr Vn Ops
section
variable{F:Nat->Prop}{w:World}{g gw n:Nat}{m:aH.Safe}{ps:List aH.Pc}{aX aQ first:Int}{R:St}{T:List (List UInt8)}
def YA(w:World)(g:Nat)(first:Int)(R:St)(e:Ending)(w':World):Prop:=
 ∃gw A c,e=.returned (.tuple #[.pointer (some ⟨gw,0,none⟩),.slice A (texts R).length c,.int .i64 0])/\D3 w' gw g (first+lastOf R)/\w.heap.size<=gw/\
  aF 9 1 w.heap.size w' A (texts R).length c (dn (texts R))/\Below w.heap.size w w'
def YB(w:World)(first:Int)(R:St)(e:Ending)(w':World):Prop:=
 ∃A c,e=.returned (.tuple #[.slice A (texts R).length c,.int .i64 (first+lastOf R)])/\aF 9 1 w.heap.size w' A (texts R).length c (dn (texts R))/\Below w.heap.size w w'
structure Fits(n:Nat)(m:aH.Safe)(ps:List aH.Pc):Prop where
 n:n<=100000
 len:ps.length<100000
 file:∀f,(dU m f).size<=100000
 pc:∀p∈ps,p.2.size<=65549/\1<=p.1/\p.1<=1073741824
theorem abK{ps:List aH.Pc}{k:Nat}(h:∀p∈ps,p.2.size<=k):total ps<=ps.length*k:=by
 induction ps with
 |nil=>simp[total]
 |cons p ps ih=>
  have h1:=h p (by simp);have h2:=ih (fun q hq=>h q (by simp[hq]));rw[total_cons,List.length_cons,Nat.succ_mul];omega
theorem Fits.total(h:Fits n m ps):aH.total ps<=6554900000:=by have h1:=abK (k:=65549) (fun p hp=>(h.pc p hp).1);have:=h.len;omega
theorem Fits.i64(h:Fits n m ps):∀p∈ps,I64 p.1:=fun p hp=>by have:=h.pc p hp;exact gY (by omega) (by omega)
theorem Jp(h:Log first R T m ps)(hf1:1<=first)(hf2:first<=1073741824)(hl:(cur R T).length<=100000):
  ∃ls:List Sg,ls.map (·.1)=jY (cu m ps) (dataOf m ps) (cur R T).length first/\eG ls=texts (cur R T)/\zx first ls=first+lastOf (cur R T)/\ls.length=(cur R T).length:=by
 obtain⟨ls,h3,h4,h5,h6⟩:=TN hf1 (by omega) (Pz h.ok h.T) (by omega);refine⟨ls,h3.trans h.abG.1.symm,h4,?_,h6⟩;by_cases hc:cur R T=[]
 ·rw[hc]at h6⊢;obtain rfl:ls=[]:=lE0 h6;simp[zx,lastOf]
 ·exact h5 _ hc
theorem aht(hd:aZ w g F n m ps aX aQ)(h:Log first R T m ps)(hf:Fits n m ps)(hf1:1<=first)(hf2:first<=1073741824)(hl:(cur R T).length<=100000):
  Calls Tryz.prog 132 #[.pointer (some ⟨g,0,none⟩),.int .i64 first] w (YB w first (cur R T)):=by
 obtain⟨ls,h3,h4,h5,h6⟩:=Jp h hf1 hf2 hl;have ht:=hf.total;refine(Dh w g n F m ps aX aQ first (cur R T).length ls hd hf.i64 hf.n (by have:=hf.len;omega) (fun f=>by have:=hf.file f;omega) hf1 hf2 (by omega) h.abG.2 h3 (by omega)).mono ?_;rintro e w' ⟨A,c,h7,h8,h9⟩;rw[h4]at h7 h8;rw[h5]at h7;exact⟨A,c,h7,h8,h9⟩
theorem Mc(hd:aZ w g F n m ps aX aQ)(h:Log first R T m ps)(hf:Fits n m ps)(hf1:1<=first)(hf2:first<=1073741824)(hl:(cur R T).length<=100000):
  Calls Tryz.prog 72 #[.pointer (some ⟨g,0,none⟩),.int .i64 first] w (YA w g first (cur R T)):=by
 obtain⟨ls,h3,h4,h5,h6⟩:=Jp h hf1 hf2 hl;have ht:=hf.total;refine(open_any w g n F m ps aX aQ first (cur R T).length ls hd hf.i64 hf.n (by have:=hf.len;omega) (fun f=>by have:=hf.file f;omega) hf1 hf2 (by omega) h.abG.2 h3 (by omega)).mono ?_;rintro e w' ⟨gw,A,c,h7,h8,h9,h10,h11⟩;rw[h4]at h7 h10;rw[h5]at h8;exact⟨gw,A,c,h7,h8,h9,h10,h11⟩
def abL(w:World)(g gw:Nat)(F:Nat->Prop)(n:Nat)(m:aH.Safe)(ps:List aH.Pc)(aX aQ first:Int)(R:St)(T:List (List UInt8))(e:Ending)(w':World):Prop:=
 e=.returned (.int .i64 0)/\∃F',aZ w' g F' n m ps aX aQ/\jG w F F'/\D3 w' gw g (first+lastOf (cur R T))/\Kept (fun k=>F k\/k=gw) w w'
theorem GL(hd:aZ w g F n m ps aX aQ)(hw:D3 w gw g (first+lastOf (cur R T)))(h:Log first R T m ps)(hf:Fits n m ps)(hf1:1<=first)(hf2:first+lastOf (cur R T)<=1073741824)(s:ByteArray)(hs:s.size<=65536):
  Calls Tryz.prog 110 #[.pointer (some ⟨gw,0,none⟩),.string s] w (abL w g gw F n m (ps++[(first+lastOf (cur R T),bI (bM (bl s)))]) aX aQ first R (T++[bl s])):=by
 have ht:=hf.total;refine(Vf hd hw s hs (by omega) hf2 hf.len (by have:=hf.file (first+lastOf (cur R T));omega)).mono ?_;rintro e w' ⟨h1,F',h2,h3,h4,h5⟩;refine⟨h1,F',h2,h3,?_,h5⟩;have h6:=(h.append (t:=bl s) (by rw[bP];exact hs)).file (lastOf (cur R T));rw[h6.2,nI,Py]at h4;rw[Py,abH];split
 ·rename_i h7;rw[if_pos h7]at h4;rw[show first+((lastOf (cur R T)+1:Nat):Int)=first+(lastOf (cur R T):Int)+1 by omega];exact h4
 ·rename_i h7;rw[if_neg h7]at h4;exact h4
end
theorem TP(first:Int):Log first [] [] (fun _=>none) []:=⟨fun i=>rfl,rfl,(fun f hf=>by cases hf),(fun t ht=>by cases ht)⟩
end Wl
end Go.Proofs.YtomccaocggplgaaGreat
namespace Go.Proofs.YtomccaocggplgaaGreat
open Go.Shelf Go.Sort Go.RowKit Go.Proofs
namespace Rv
def lays112_ren:Go.Shelf.Ren:=⟨fun|112=>67|n=>n,fun|28=>71|3=>3|4=>4|0=>0|n=>n,fun|n=>n⟩
theorem lays112:Go.Proofs.Lays.n112 Tryz.prog lays112_ren:={
 mixed:=by kernel_rfl
 f112:=Tryz.func67.trans (congrArg some (by kernel_rfl))
 t0:=Tryz.underlying0
 a0:=Tryz.isAgg0
 z0:=Tryz.sizeOf0
 v0:=Tryz.zeroValue0
 t3:=Tryz.underlying3
 a3:=Tryz.isAgg3
 z3:=Tryz.sizeOf3
 v3:=Tryz.zeroValue3
 t4:=Tryz.underlying4
 a4:=Tryz.isAgg4
 z4:=Tryz.sizeOf4
 v4:=Tryz.zeroValue4
 t28:=Tryz.underlying71
 a28:=Tryz.isAgg71
 z28:=Tryz.sizeOf71
 v28:=Tryz.zeroValue71}
theorem NL(b off n c:Nat)(zs:List Int)(w:World)(hz:n<=zs.length)(hbig:n<=9223372036854775807)(hc:∀j,j<zs.length->w.cell? ⟨b,off+j,none⟩=some (.int .i64 (zs.getD j 0)))(hf:∀j,j<n->w.frozen? ⟨b,off+j,none⟩=false):
  Calls Tryz.prog 67 #[.slice (some ⟨b,off,none⟩) n c] w fun e w'=>e=.returned (.tuple #[])/\∃q,w'=(w.drewN q).setCells b off ((zs.take n).reverse.map (Value.int .i64)):=Any.slices_Reverse_int_cells lays112 b off n c zs w hz hbig hc hf
theorem reverse_empty(a:Option Addr)(cap:Nat)(w:World):
  Calls Tryz.prog 67 #[.slice a 0 cap] w fun e w'=>e=.returned (.tuple #[])/\w'=w:=Any.slices_Reverse_int_empty lays112 a cap w
end Rv
end Go.Proofs.YtomccaocggplgaaGreat
namespace Go.Proofs.YtomccaocggplgaaGreat
open Go.RowKit
namespace Pt
open aH Fr Vn Ops Wl
def wH(t:List UInt8):Option Nat:=if t.head? =some 80 then (match get t 1 with| .ok (n,j)=>if j=t.length/\n<=1073741824 then some n else none| .error _=>none)else none
def KJ(o:Option Nat):Value:=.tuple #[.int .i64 (o.getD 0:Nat),.bool o.isSome]
theorem rQ(s:ByteArray):(s.toList==[])=decide (s.size=0):=by rw[ByteArray.toList_eq,<-bP];cases h:bl s<;>simp[h]
theorem aet(s:ByteArray)(h:0<s.size):(bl s).head? =some s[0]:=by
 have h2:0<(bl s).length:=by rw[bP];exact h
 rw[List.head?_eq_getElem?,lB0 h2];rfl
theorem count_any(w:World)(s:ByteArray)(hs:s.size<=1000000000):Calls Tryz.prog 129 #[.string s] w fun e w'=>e=.returned (KJ (wH (bl s)))/\w=w':=by
 have he:=rQ s;by_cases hz:s.size=0
 ·rw[decide_eq_true hz]at he;have hc:wH (bl s)=none:=by have:bl s=[]:=lE0 (by rw[bP];exact hz);rw[this];rfl
  rw[hc];clear hc hz;go_enter Tryz.func129,Tryz.ntmps129;go_wp2;go_ret2;exact⟨rfl,rfl⟩
 ·rw[decide_eq_false hz]at he;have hpos:0<s.size:=by omega
  have hhd:=aet s hpos;have hlt:s[0].toNat<256:=UInt8.toNat_lt _;by_cases h80:s[0]=80
  ·have hq:((s[0].toNat:Int)==80)=true:=by rw[h80];rfl
   have hq2:((s[0].toNat:Int) !=80)=false:=by rw[h80];rfl
   have hg:=CY s 1 (by omega) (by unfold maxLen;omega) w;have hc:wH (bl s)=(match get (bl s) 1 with| .ok (n,j)=>if j=s.size/\n<=1073741824 then some n else none| .error _=>none):=by unfold wH;rw[hhd,h80,if_pos rfl,bP]
   rw[hc];rcases zX (bl s) 1 with⟨e,hge,Yf⟩|⟨n,j,hgo⟩
   ·rw[hge];rw[hge]at hg;unfold Hy at hg;dsimp only at hg⊢;have hne:((e:Int) !=0)=true:=by rcases Yf with rfl|rfl<;>rfl
    have HG:=ah hg;clear hg hc hhd hge Yf h80;go_enter Tryz.func129,Tryz.ntmps129;go_wp2_with fail;refine HG.out.mono ?_;rintro e' w' ⟨rfl,rfl⟩;go_wp2;go_ret2;exact⟨rfl,rfl⟩
   ·rw[hgo];rw[hgo]at hg;unfold Hy at hg;dsimp only at hg⊢;obtain⟨hj1,hj2,hj3⟩:=yN hgo;rw[bP]at hj2;have HG:=ah hg;clear hg hc hhd hgo h80;by_cases hjs:j=s.size
    ·by_cases hn:n<=1073741824
     ·rw[if_pos ⟨hjs,hn⟩];subst hjs;have hn':¬(1073741824:Int)<(n:Int):=by omega
      go_enter Tryz.func129,Tryz.ntmps129;go_wp2_with fail;refine HG.out.mono ?_;rintro e' w' ⟨rfl,rfl⟩;go_wp2;go_ret2;exact⟨rfl,rfl⟩
     ·rw[if_neg (fun h=>hn h.2)];subst hjs;have hn':(1073741824:Int)<(n:Int):=by omega
      go_enter Tryz.func129,Tryz.ntmps129;go_wp2_with fail;refine HG.out.mono ?_;rintro e' w' ⟨rfl,rfl⟩;go_wp2;go_ret2;exact⟨rfl,rfl⟩
    ·rw[if_neg (fun h=>hjs h.1)];have hjn:((j:Int) !=(s.size:Int))=true:=by simp;omega
     clear hjs;go_enter Tryz.func129,Tryz.ntmps129;go_wp2_with fail;refine HG.out.mono ?_;rintro e' w' ⟨rfl,rfl⟩;go_wp2;go_ret2;exact⟨rfl,rfl⟩
  ·have ahH:s[0].toNat≠80:=fun h=>h80 (UInt8.toNat_inj.1 (by rw[h];rfl));have hq2:((s[0].toNat:Int) !=80)=true:=by simp;omega
   have hc:wH (bl s)=none:=by unfold wH;rw[hhd,if_neg (fun h=>h80 (by injection h))]
   rw[hc];clear hc hhd h80 ahH;go_enter Tryz.func129,Tryz.ntmps129;go_wp2;go_ret2;exact⟨rfl,rfl⟩
end Pt
end Go.Proofs.YtomccaocggplgaaGreat
namespace Go.Proofs.YtomccaocggplgaaGreat
open Go.RowKit Go.Maps
namespace aH
def KL(m:Safe)(f:Int):Safe:=fun x=>if x=f then none else m x
theorem iK.dropped{w':World}{b n:Nat}{m:Safe}{D:DataW Unit}(hD:∀k,I64 k->has D (.int .i64 k)=(m k).isSome/\D.atKey (.int .i64 k) (.lit (.string []))=.lit (.string (dU m k).data.toList)){k:Int}
  (ho:w'.ownsMap Tryz.prog 3 (plainElem Tryz.prog 9) b n (D.del (.int .i64 k))):iK w' b n (KL m k):=by
 refine⟨_,ho,?_⟩;intro i hi;by_cases e:i=k
 ·subst e;rw[has_del_same,atKey_del_same];simp[KL,dU]
 ·have hne:(Lit.int .i64 i)≠ .int .i64 k:=fun h=>e (by injection h);rw[has_del_other hne,atKey_del_other hne];have:=hD i hi;simpa [KL,dU,e]using this
theorem Vg(w:World)(A:Option Addr)(c:Nat)(f:Value):Calls Tryz.prog 247 #[.slice A 0 c,f] w fun e w'=>e=.returned (.int .i64 (-1))/\w=w':=by go_enter Tryz.func247,Tryz.ntmps247;go_wp2_with fail;refine wp_loop_rounds 1 ?_;rw[rounds_succ];go_wp2;go_ret;exact⟨rfl,rfl⟩
theorem Vh(w:World)(A:Option Addr)(c:Nat)(f:Value):Calls Tryz.prog 212 #[.slice A 0 c,f] w fun e w'=>e=.returned (.slice A 0 c)/\w=w':=by go_enter Tryz.func212,Tryz.ntmps212;go_wp2_with fail;refine(Vg _ _ _ _).mono ?_;rintro e w' ⟨rfl,rfl⟩;go_wp2;go_ret;exact⟨rfl,rfl⟩
variable{F:Nat->Prop}{w:World}{g n:Nat}{m:Safe}{ps:List Pc}{aX aQ:Int}
theorem abM(h:aZ w g F n m [] aX aQ)(f:Int)(hf:I64 f)(hn:n<=100000)(hm:cu m [] f=true):
  Calls Tryz.prog 131 #[.pointer (some ⟨g,0,none⟩),.int .i64 f] w fun e w'=>e=.returned (.int .i64 0)/\aZ w' g F n (KL m f) [] aX aQ/\Kept F w w':=by
 have hmf:∀(fn:Fn) (first cap:Array Value) (w:World),(Instr.makeFunc fn first cap).run Tryz.prog w=.ok (.func fn first cap) w:=fun _ _ _ _=>rfl;obtain⟨w1,hw1⟩:∃w1,w.alloc (.cells #[.int .i64 f] 3)=w1:=⟨_,rfl⟩;have hk1:Kept aj w w1:=by rw[<-hw1];exact(Kept.refl _ _).alloc _
 have hb1:Has w1 w.heap.size 3 #[.int .i64 f]:=by rw[<-hw1];exact Has.new _ _ _
 have hd1:aZ w1 g F n m [] aX aQ:=h.kept hk1 (fun _ _ z=>z);have hno:=dZ hd1;have hfi:=fun W (hW:Kept aj w1 W)=>pZ (hd1.kept hW (fun _ _ z=>z)) (fun p hp=>by cases hp) hn (by decide);have c3:w1.cell? ⟨w.heap.size,0,none⟩=some (.int .i64 f):=hb1.cell 0;have HW1:=ah hw1;have jK:=ah hno;have qg:=ah hfi;have HM:=ah hm;have HB1:=ah hb1;have gB:=ah hk1;have HD1:=ah hd1;have HF:=ah hf;clear hno hfi hm hb1 hk1 hd1 hw1 h hf;go_enter Tryz.func131,Tryz.ntmps131;go_wp2_with fail;rw[HW1.out];refine jK.out.mono ?_;rintro e w' ⟨rfl,rfl⟩;go_wp2_with fail
 go_region_held3 (fun W=>W.cell? ⟨w.heap.size,0,none⟩=some (.int .i64 f)) (first|exact c3|exact q4|(simp[go_sem,c3];done))
  (first
   |(go_at_call 52;refine(qg.out _ (by(repeat'(first|(with_reducible first|exact ak|apply au|apply ay|apply aA|apply aB)|(right;simp;done))))).mono ?_;rintro e w4 ⟨fl,A,c,rfl,hfa,hown,hnew,hk4⟩;have hk5:Kept aj w1 w4:=Kept.then (by(repeat'(first|(with_reducible first|exact ak|apply au|apply ay|apply aA|apply aB)|(right;simp;done)))) hk4;have q4:=(HB1.out.kept hk5 (fun z=>z)).cell 0;have qp:=ah hown;have EL:=ah hfa;clear hown hfa hnew)
   |(go_at_call 93;have hco:=zu.lG w4 A c fl f (Src.bF qp.out) (Nat.le_trans (gJ qp.out).1 (gJ qp.out).2);rw[zu.rZ.2 ((EL.out.mem f).2 ⟨HF.out,HM.out⟩)]at hco;refine hco.mono ?_;rintro e w5 ⟨rfl,rfl⟩;clear hco))
 clear c3;have hd4:=HD1.out.kept hk5 (fun _ _ z=>z);obtain⟨mb,A0,c0',hF,hg,hm,ho⟩:=hd4;have m0:w4.cell? ⟨g,0,none⟩=some (.map (some mb)):=hg.cell 0;have hkd:Kept aj w4 w4.drew:=(Kept.refl _ _).drew;obtain⟨D,hmo,hD⟩:=hm.kept hkd (fun z=>z);have hne:=hm.ne hg;have hbr:∀k,(Value.slice A0 ([]:List Pc).length c0').ownBlock=some k->k≠mb:=fun k hk e=>(hm.BQ ho) (e▸hk);have hgl:=hg.lt;have hb4:Has w4 w.heap.size 3 #[.int .i64 f]:=HB1.out.kept hk5 (fun z=>z);have hbm:mb≠w.heap.size:=hm.ne hb4;have YC:=ah hF;have HG:=ah (hg.kept hkd (fun z=>z));have HO:=ah (aC ho hkd (fun _ _ z=>z));have HD:=ah hD;have HB4:=ah (hb4.kept hkd (fun z=>z));have dB:=ah hk5;clear hF hg hm ho hD hk5 hb4 hkd;go_wp2_with fail;refine wp_region_still_tail 5 (by kernel_rfl) (by kernel_rfl) ?_;simp only[List.take_succ_cons,List.take_zero,List.drop_succ_cons,List.drop_zero];change wpStill _ _ (World.drew w4) _ _ _;repeat still_step
 refine wpStill_nil ?_;change wpList _ _ _ _ _ (World.drew w4);go_wp2_with (at_delete;refine wpList_delete_own _ rfl _ _ 61 3 rfl 9 kE Tryz.underlying61 _ mb n D rfl hmo _ _ rfl (qI HF.out) ?_;intro w6 hown6 YD;have hkt:Kept (fun i=>i=mb) w4.drew w6:=((Kept.refl _ _).grownBy YD.grown (fun i hi=>by injection hi with hi;exact .inl hi.symm));have EP:=HG.out.kept hkt (fun e=>hne e.symm);have d1:w6.cell? ⟨g,1,none⟩=some (.slice A0 0 c0'):=EP.cell 1;have f1:=EP.frozen 1;have HT:=ah hkt;have ahI:=ah hown6;have HG6:=ah EP;clear hkt hown6 YD EP);refine(Vh _ _ _ _).mono ?_;rintro e w7 ⟨rfl,rfl⟩;go_wp2;go_ret;have hks:Kept (fun k=>k=g) w6 (w6.setCell ⟨g,1,none⟩ (.slice A0 0 c0')):=(Kept.refl _ w6).put (.inl rfl);refine⟨rfl,⟨mb,A0,c0',YC.out,HG6.out.dH rfl,(iK.dropped HD.out ahI.out).kept hks hne,?_⟩,?_⟩
 ·exact aC (aC HO.out HT.out (fun k hk e=>hbr k hk e)) hks (fun k hk e=>own_ne (aC HO.out HT.out (fun k hk e=>hbr k hk e)) HG6.out (by decide) (e▸hk))
 ·exact(((gB.out.then dB.out).drew.mono (fun _ z=>z.elim)).then (HT.out.mono (fun k hk=>(YC.out k).2 (.inr (.inl hk))))).put (.inl ((YC.out g).2 (.inl rfl)))
end aH
end Go.Proofs.YtomccaocggplgaaGreat
namespace Go.Proofs.YtomccaocggplgaaGreat
open Go.RowKit
namespace Pt
open aH Fr Vn Ops Wl
def uz(b:List UInt8):Option Nat:=match nextR b 0 with
 | .ok t _=>wH t
 | .bad _=>none
theorem YE{s:List UInt8}{i to:Nat}{t:List UInt8}(h:nextR s i=.ok t to):t.length<=s.length:=by
 unfold nextR at h;split at h
 ·cases h
 ·split at h
  ·cases h
  ·split at h
   ·cases h
   ·split at h
    ·injection h with h3 h4;rw[<-h3];simp only[List.length_take,List.length_drop];omega
    ·cases h
section
variable{F:Nat->Prop}{w:World}{g n:Nat}{m:aH.Safe}{ps:List aH.Pc}{aX aQ:Int}
theorem Md(f:Int):(dataOf m ps f).size<=(dU m f).size+total ps:=by
 have:=Jl f ps;have e:(dataOf m ps f).size=(dU m f).size+(ofFile f ps).length:=by show((dU m f).data.toList++ofFile f ps).toArray.size=_;rw[List.size_toArray,lA0,Array.length_toList];rfl
 omega
theorem Dp(h:aZ w g F n m ps aX aQ)(f:Int)(hf:I64 f)(hlen:ps.length<=100000)(hsz:(dataOf m ps f).size<=1000000000)(hsz2:(dU m f).size+total ps<=140737488355328):
  Calls Tryz.prog 68 #[.pointer (some ⟨g,0,none⟩),.int .i64 f] w fun e w'=>e=.returned (KJ (uz (bl (dataOf m ps f))))/\Kept aj w w':=by
 have hda:=zq h f hf hlen hsz2;generalize dataOf m ps f=D at hda hsz⊢;have hnx:=fun W=>next_any W D 0 (Nat.zero_le _) hsz;unfold uz;have GK:=ah hda;clear hda h hlen hsz2;rcases hR:nextR (bl D) 0 with e0|⟨t,to⟩
 ·rw[hR]at hnx;unfold zW at hnx;have he0:((e0:Int) !=0)=true:=by have:=EG hR;simpa using this
  dsimp only at hnx⊢;have HN:=ah hnx;clear hnx hR;go_enter Tryz.func68,Tryz.ntmps68;go_wp2_with fail;refine GK.out.mono ?_;rintro e w1 ⟨rfl,hk1⟩;go_wp2_with fail;refine(HN.out _).mono ?_;rintro e w2 ⟨rfl,hk2⟩;have HK:=ah (hk1.then hk2);clear hk1 hk2;go_wp2;go_ret2;exact⟨rfl,HK.out⟩
 ·rw[hR]at hnx;unfold zW at hnx;dsimp only at hnx⊢;have hto:=CZ hR;have hts:(bI t).size<=1000000000:=by rw[nI];have:=YE hR;rw[bP]at this;omega
  have hco:=fun W=>count_any W (bI t) hts;rw[jq]at hco;have HN:=ah hnx;have HC:=ah hco;clear hnx hR hco hto hts;obtain⟨o,ho⟩:∃o,wH t=o:=⟨_,rfl⟩;rw[ho]at HC⊢;unfold KJ at HC⊢;clear ho;go_enter Tryz.func68,Tryz.ntmps68;go_wp2_with fail;refine GK.out.mono ?_;rintro e w1 ⟨rfl,hk1⟩;go_wp2_with fail;refine(HN.out _).mono ?_;rintro e w2 ⟨rfl,hk2⟩;have HK:=ah (hk1.then hk2);clear hk1 hk2;go_wp2_with fail;refine(HC.out _).mono ?_;rintro e w3 ⟨rfl,rfl⟩;go_wp2;go_ret2;exact⟨rfl,HK.out⟩
theorem BU(h:aZ w g F n m ps aX aQ)(f:Int)(K:Nat)(hpi:∀p∈ps,I64 p.1)(hn:n<=100000)(hlen:ps.length<=100000)(hsz:∀x,(dU m x).size+total ps<=1000000000)(hf0:0<=f)(hfK:f+K<=1152921504606846976)
  (h1:∀j:Nat,j<K->cu m ps (f+1+j)=true/\uz (bl (dataOf m ps (f+1+j)))=none) (h2:cu m ps (f+1+K)=false\/∃c,uz (bl (dataOf m ps (f+1+K)))=some c):
  Calls Tryz.prog 71 #[.pointer (some ⟨g,0,none⟩),.int .i64 f] w fun e w'=>e=.returned (.int .i64 (f+1+K))/\Kept aj w w':=by
 have hfi:=pZ h hpi hn hlen;have hbe:=fun(x:Int) (hx:0<=x/\x<=2305843009213693952) (W:World) (hW:Kept aj w W)=>Dp (h.kept hW (fun _ _ z=>z)) x (gY hx.1 (by omega)) hlen (by have:=Md (m:=m) (ps:=ps) x;have:=hsz x;omega) (by have:=hsz x;omega);have qg:=ah hfi;have uZ:=ah hbe;have H1:=ah h1;have H2:=ah h2;clear hfi hbe h1 h2 hpi hn hlen hsz h;go_enter Tryz.func71,Tryz.ntmps71;go_wp2_with fail;refine qg.out.mono ?_;rintro e w1 ⟨fl,A,c,rfl,hfa,hown,hnew,hk1⟩;have EL:=ah hfa;have qp:=ah hown;have gB:=ah hk1;clear hfa hown hnew hk1;go_wp2_with fail;go_loopw [6] (fun v6 wr=>∃j:Nat,j<=K/\v6=.int .i64 (f+1+j)/\Kept aj w1 wr) (fun v6 _=>(f+1+K-intOf v6).toNat)
 case atStart=>exact⟨0,Nat.zero_le _,by simp,Kept.refl _ _⟩
 case round=>
  obtain⟨j,hj,rfl,hk⟩:=hrel;obtain⟨x,hx⟩:∃x,f+1+(j:Int)=x:=⟨_,rfl⟩;have hx1:0<=x:=by omega
  have hx2:x<=2305843009213693952:=by omega
  rw[hx];have HX0:=ah hx;have hsrc:Src wr 1 A fl.length (fl.map (Value.int .i64)):=(Src.bF qp.out).kept hk (fun _ _ z=>z);have hco:=zu.lG wr A c fl x hsrc (Nat.le_trans (gJ qp.out).1 (gJ qp.out).2);have hin:zu.inB fl x=cu m ps x:=by rw[Bool.eq_iff_iff,zu.rZ,EL.out.mem x];exact⟨fun h=>h.2,fun h=>⟨gY hx1 (by omega),h⟩⟩
  rw[hin]at hco;have HK:=ah hk;have hbx:=uZ.out x ⟨hx1,hx2⟩ wr (gB.out.then hk);clear hin hsrc hk;by_cases hjK:j<K
  ·have h3:=H1.out j hjK;rw[hx]at h3;rw[h3.1]at hco;rw[h3.2]at hbx;have qR:=ah hco;have D4:=ah hbx;have HX:=ah hx;unfold KJ at D4;clear hco hbx h3 hx;go_wp2_with fail;refine qR.out.mono ?_;rintro e w2 ⟨rfl,rfl⟩;go_wp2_with fail;refine D4.out.mono ?_;rintro e w2 ⟨rfl,hk2⟩;have aV:=ah (HK.out.then hk2);clear hk2;go_wp2;go_roundw
   case rel=>exact⟨j+1,by omega,by rw[<-HX.out];congr 1;omega,aV.out⟩
   case measure=>have:=HX.out;simp[intOf];omega
  ·obtain rfl:j=K:=by omega
   rcases H2.out with h3|⟨cc,h3⟩
   ·rw[hx]at h3;rw[h3]at hco;have qR:=ah hco;clear hco hbx h3;go_wp2_with fail;refine qR.out.mono ?_;rintro e w2 ⟨rfl,rfl⟩;go_wp2;go_ret;exact⟨by rw[HX0.out];rfl,gB.out.then HK.out⟩
   ·rw[hx]at h3;rw[h3]at hbx;unfold KJ at hbx;have D4:=ah hbx;obtain⟨bb,hbb⟩:∃bb,cu m ps x=bb:=⟨_,rfl⟩;rw[hbb]at hco;have qR:=ah hco;clear hco hbx h3 hbb;cases bb
    ·go_wp2_with fail;refine qR.out.mono ?_;rintro e w2 ⟨rfl,rfl⟩;go_wp2;go_ret;exact⟨by rw[HX0.out];rfl,gB.out.then HK.out⟩
    ·go_wp2_with fail;refine qR.out.mono ?_;rintro e w2 ⟨rfl,rfl⟩;go_wp2_with fail;refine D4.out.mono ?_;rintro e w2 ⟨rfl,hk2⟩;have aV:=ah (HK.out.then hk2);clear hk2;go_wp2;go_ret;exact⟨by rw[HX0.out];rfl,gB.out.then aV.out⟩

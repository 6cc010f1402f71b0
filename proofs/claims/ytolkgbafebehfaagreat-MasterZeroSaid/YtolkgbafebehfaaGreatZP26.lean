/- Part 27 of what the proof needs. -/
import Derived.Test.YtolkgbafebehfaaGreatZP25
import Derived.Shelf.SlIterI.Nil
import Derived.Shelf.SortM.Plain
import Derived.Shelf.SortM.SortNone
set_option linter.unusedSimpArgs false
set_option linter.unusedVariables false
set_option maxHeartbeats 32000000
set_option maxRecDepth 100000
namespace Go.Proofs.YtolkgbafebehfaaGreat
open Go.RowKit
set_option maxRecDepth 100000
namespace aJ
variable{F:Nat->Prop}{w:World}{g n:Nat}{m:Safe}{ps:List Pc}{aV aO:Int}
def ofFile(f:Int)(ps:List Pc):List UInt8:=ps.flatMap fun p=>if p.1=f then p.2.data.toList else []
theorem CU(f:Int)(ps:List Pc)(p:Pc):ofFile f (ps++[p])=ofFile f ps++if p.1=f then p.2.data.toList else []:=by simp[ofFile]
theorem CV(f:Int)(p:Pc)(ps:List Pc):ofFile f (p::ps)=(if p.1=f then p.2.data.toList else [])++ofFile f ps:=by simp[ofFile]
theorem total_cons(p:Pc)(ps:List Pc):total (p::ps)=p.2.size+total ps:=by simp[total]
theorem Pj(f:Int)(ps:List Pc):(ofFile f ps).length<=total ps:=by
 induction ps with
 |nil=>simp[ofFile]
 |cons p ps ih=>
  rw[CV,total_cons,List.length_append]
  split
  ·simp;omega
  ·simp;omega
def dataOf(m:Safe)(ps:List Pc)(f:Int):ByteArray:=⟨((dY m f).data.toList++ofFile f ps).toArray⟩
theorem DC(h:aX w g F n m ps aV aO)(f:Int)(hf:I64 f)(hlen:ps.length<=100000)(hsz:(dY m f).size+total ps<=140737488355328):
  Calls Tryz.prog 102 #[.pointer (some ⟨g,0,none⟩),.int .i64 f] w fun e w'=>e=.returned (.string (dataOf m ps f))/\Kept aj w w':=by
 have hn:=dN h
 have HN:=ah hn;clear hn
 obtain⟨mb,A,c,hF,hg,hm,ho⟩:=h
 have c0:w.cell? ⟨g,0,none⟩=some (.map (some mb)):=hg.cell 0
 have c1:w.cell? ⟨g,1,none⟩=some (.slice A ps.length c):=hg.cell 1
 have hgl:=hg.lt
 have hlk:=((hm.kept ((Kept.refl aj w).alloc (.cells #[.pointer none,.slice none 0 0] 248)) (fun x=>x)).look hf).1
 have HG:=ah hg;clear hg
 have HM:=ah hm;clear hm
 have HS:=ah (Src.bC ho);clear ho
 have SH:=ah (Lib.IsBuilderF.of (Lib.fresh_isBuilder 248 5 w))
 clear hF
 go_enter Tryz.func102,Tryz.ntmps102
 go_wp2_with fail
 refine HN.out.mono ?_
 rintro e w' ⟨rfl,rfl⟩
 go_wp2_with fail
 refine(Yv.write_any w.heap.size w.heap.size [] (dY m f) _ SH.out (by simp;omega) (by simp)).mono ?_
 rintro e w1 ⟨rfl,hb1,hk1,-⟩
 have hbl:Below w.heap.size w w1:=((Below.refl _ _).alloc (Nat.le_refl _) _).trans hk1
 have hkb:Kept aj w w1:=Kept.of_below hbl (fun k h _=>h)
 have c1':w1.cell? ⟨g,1,none⟩=some (.slice A ps.length c):=(HG.out.kept hkb (fun x=>x)).cell 1
 have aaL:Lib.IsBuilderF 248 5 w.heap.size w.heap.size (Lib.byteCells ((dY m f).data.toList++ofFile f (ps.take 0))) w1:=by
  refine .inr ?_
  simpa [ofFile,show Lib.strCells (dY m f)=Lib.byteCells (dY m f).data.toList from rfl]using hb1
 have acG:=ah aaL;clear aaL hb1
 go_wp2_with fail
 go_loopw [7,22] (fun v7 v22 wr=>∃i:Nat,i<=ps.length/\v22=.int .i64 i/\Lib.IsBuilderF 248 5 w.heap.size w.heap.size (Lib.byteCells ((dY m f).data.toList++ofFile f (ps.take i))) wr/\Below w.heap.size w wr) (fun _ v22 _=>ps.length-(intOf v22).toNat)
 case atStart=>exact⟨0,Nat.zero_le _,rfl,acG.out,hbl⟩
 case round=>
  obtain⟨i,hi,rfl,hib,hbw⟩:=hrel
  have HK:=ah (Kept.of_below (F:=aj) hbw (fun k h _=>h))
  have uZ:=ah hbw;clear hbw
  have hsl:=uZ.out.size
  have SH:=ah hib;clear hib
  by_cases hil:i<ps.length
  ·obtain⟨q,hq⟩:∃q,ps[i]? =some q:=⟨_,List.getElem?_eq_getElem hil⟩
   have rJ:=HS.out.kept HK.out (fun _ _ x=>x)
   obtain⟨ad,rfl,hl1,e0,e1⟩:=zk rJ (by omega) i q hq
   clear rJ
   have ht:=zi ps (i+1)
   rw[take_snoc hq,pX]at ht
   have hol:=Pj f (ps.take i)
   have HT:=ah (take_snoc hq)
   obtain⟨q1,q2⟩:=q
   dsimp only at e0 e1 ht
   clear hq
   by_cases hqf:q1=f
   ·subst hqf
    go_wp2_with fail
    refine(Yv.write_any w.heap.size w.heap.size _ q2 _ (SH.out.alloc _) (by simp[Lib.byteCells_length];omega) (by simp;omega)).mono ?_
    rintro e w2 ⟨rfl,hb2,hk2,-⟩
    have hb3:Below w.heap.size w w2:=(uZ.out.alloc hsl _).trans hk2
    have hb4:Lib.IsBuilderF 248 5 w.heap.size w.heap.size (Lib.byteCells ((dY m q1).data.toList++ofFile q1 (ps.take (i+1)))) w2:=by
     refine .inr ?_
     rw[HT.out,CU]
     simpa [Lib.byteCells,Lib.strCells]using hb2
    go_wp2_with fail
    go_roundw
    case rel=>exact⟨i+1,by omega,by go_num,hb4,hb3⟩
    case measure=>simp[intOf];omega
   ·have hne:(q1==f)=false:=by simpa using hqf
    have hb4:Lib.byteCells ((dY m f).data.toList++ofFile f (ps.take (i+1)))=Lib.byteCells ((dY m f).data.toList++ofFile f (ps.take i)):=by
     rw[HT.out,CU]
     simp[hqf]
    have HB4:=ah hb4;clear hb4
    go_wp2_with fail
    go_roundw
    case rel=>exact⟨i+1,by omega,by go_num,by rw[HB4.out];exact SH.out.alloc _,uZ.out.alloc hsl _⟩
    case measure=>simp[intOf];omega
  ·obtain rfl:i=ps.length:=by omega
   go_wp2_with fail
   refine(Yv.yM w.heap.size w.heap.size _ _ SH.out (by omega)).mono ?_
   rintro e w2 ⟨rfl,hb2,hk2,-⟩
   have hb3:=uZ.out.trans hk2
   go_wp2_with fail
   go_ret
   exact⟨rfl,Kept.of_below hb3 (fun k h _=>h)⟩
end aJ
end Go.Proofs.YtolkgbafebehfaaGreat
namespace Go.Proofs.YtolkgbafebehfaaGreat
open Go.Shelf Go.Sort Go.RowKit Go.Maps Go.Proofs
set_option maxRecDepth 100000
namespace It
def keysA_ren:Go.Shelf.Ren:=⟨fun|7=>185|10=>299|n=>n,fun|23=>62|26=>3|3=>4|28=>243|0=>0|27=>242|33=>70|4=>4|n=>n,fun|n=>n⟩
theorem keysA:Go.Proofs.SlLaysZI.n7 Tryz.prog keysA_ren:={
 mixed:=by kernel_rfl
 f7:=⟨Tryz.f185.name,by decide,Tryz.func185.trans (congrArg some (by kernel_rfl))⟩
 f10:=⟨Tryz.f299.name,by decide,Tryz.func299.trans (congrArg some (by kernel_rfl))⟩
 t0:=Tryz.underlying0
 a0:=Tryz.isAgg0
 z0:=Tryz.sizeOf0
 v0:=Tryz.zeroValue0
 t4:=Tryz.underlying4
 a4:=Tryz.isAgg4
 z4:=Tryz.sizeOf4
 v4:=Tryz.zeroValue4
 t23:=Tryz.underlying62
 a23:=Tryz.isAgg62
 z23:=Tryz.sizeOf62
 v23:=Tryz.zeroValue62
 t26:=Tryz.underlying3
 a26:=Tryz.isAgg3
 z26:=Tryz.sizeOf3
 v26:=Tryz.zeroValue3
 t27:=Tryz.underlying242
 a27:=Tryz.isAgg242
 z27:=Tryz.sizeOf242
 v27:=Tryz.zeroValue242
 t28:=Tryz.underlying243
 a28:=Tryz.isAgg243
 z28:=Tryz.sizeOf243
 v28:=Tryz.zeroValue243
 t33:=Tryz.underlying70
 a33:=Tryz.isAgg70
 z33:=Tryz.sizeOf70
 v33:=Tryz.zeroValue70}
def sortedA_ren:Go.Shelf.Ren:=⟨fun|6=>184|8=>298|9=>110|11=>360|13=>203|12=>202|23=>317|24=>318|14=>308|15=>309|16=>310|17=>311|18=>312|19=>313|20=>314|21=>315|22=>316|25=>363|26=>364|27=>365|28=>366|29=>367|30=>368|31=>381|n=>n,fun|26=>3|28=>243|24=>36|0=>0|3=>3|37=>269|48=>375|50=>23|4=>4|40=>368|39=>367|45=>173|5=>5|9=>9|51=>421|55=>301|57=>433|58=>223|33=>70|n=>n,fun|n=>n⟩
theorem sortedA:Go.Proofs.SlLaysZI.n6 Tryz.prog sortedA_ren:={
 mixed:=by kernel_rfl
 f6:=⟨Tryz.f184.name,by decide,Tryz.func184.trans (congrArg some (by kernel_rfl))⟩
 f8:=⟨Tryz.f298.name,by decide,Tryz.func298.trans (congrArg some (by kernel_rfl))⟩
 f11:=⟨Tryz.f360.name,by decide,Tryz.func360.trans (congrArg some (by kernel_rfl))⟩
 t0:=Tryz.underlying0
 a0:=Tryz.isAgg0
 z0:=Tryz.sizeOf0
 v0:=Tryz.zeroValue0
 t24:=Tryz.underlying36
 a24:=Tryz.isAgg36
 z24:=Tryz.sizeOf36
 v24:=Tryz.zeroValue36
 t26:=Tryz.underlying3
 a26:=Tryz.isAgg3
 z26:=Tryz.sizeOf3
 v26:=Tryz.zeroValue3
 t28:=Tryz.underlying243
 a28:=Tryz.isAgg243
 z28:=Tryz.sizeOf243
 v28:=Tryz.zeroValue243
 i26:=by kernel_rfl}
def SI:Go.Shelf.Ren:=⟨fun|5=>110|8=>203|7=>202|19=>317|20=>318|10=>308|11=>309|12=>310|13=>311|14=>312|15=>313|16=>314|17=>315|18=>316|30=>363|31=>364|32=>365|33=>366|34=>367|35=>368|40=>381|n=>n,fun|23=>36|25=>3|3=>3|32=>269|22=>36|0=>0|44=>375|46=>23|4=>4|36=>368|35=>367|41=>173|5=>5|9=>9|53=>421|57=>301|63=>433|64=>223|n=>n,fun|n=>n⟩
theorem sortA:Go.Proofs.SlLaysM.n5 Tryz.prog SI:={
 mixed:=by kernel_rfl
 f5:=⟨Tryz.f110.name,by decide,Tryz.func110.trans (congrArg some (by kernel_rfl))⟩
 f7:=⟨Tryz.f202.name,by decide,Tryz.func202.trans (congrArg some (by kernel_rfl))⟩
 f8:=Tryz.func203.trans (congrArg some (by kernel_rfl))
 f10:=⟨Tryz.f308.name,by decide,Tryz.func308.trans (congrArg some (by kernel_rfl))⟩
 f11:=⟨Tryz.f309.name,by decide,Tryz.func309.trans (congrArg some (by kernel_rfl))⟩
 f12:=⟨Tryz.f310.name,by decide,Tryz.func310.trans (congrArg some (by kernel_rfl))⟩
 f13:=⟨Tryz.f311.name,by decide,Tryz.func311.trans (congrArg some (by kernel_rfl))⟩
 f14:=⟨Tryz.f312.name,by decide,Tryz.func312.trans (congrArg some (by kernel_rfl))⟩
 f15:=⟨Tryz.f313.name,by decide,Tryz.func313.trans (congrArg some (by kernel_rfl))⟩
 f16:=⟨Tryz.f314.name,by decide,Tryz.func314.trans (congrArg some (by kernel_rfl))⟩
 f17:=⟨Tryz.f315.name,by decide,Tryz.func315.trans (congrArg some (by kernel_rfl))⟩
 f18:=⟨Tryz.f316.name,by decide,Tryz.func316.trans (congrArg some (by kernel_rfl))⟩
 f19:=Tryz.func317.trans (congrArg some (by kernel_rfl))
 f20:=Tryz.func318.trans (congrArg some (by kernel_rfl))
 f30:=⟨Tryz.f363.name,by decide,Tryz.func363.trans (congrArg some (by kernel_rfl))⟩
 f31:=Tryz.func364.trans (congrArg some (by kernel_rfl))
 f32:=Tryz.func365.trans (congrArg some (by kernel_rfl))
 f33:=⟨Tryz.f366.name,by decide,Tryz.func366.trans (congrArg some (by kernel_rfl))⟩
 f34:=⟨Tryz.f367.name,by decide,Tryz.func367.trans (congrArg some (by kernel_rfl))⟩
 f35:=⟨Tryz.f368.name,by decide,Tryz.func368.trans (congrArg some (by kernel_rfl))⟩
 f40:=⟨Tryz.f381.name,by decide,Tryz.func381.trans (congrArg some (by kernel_rfl))⟩
 t0:=Tryz.underlying0
 a0:=Tryz.isAgg0
 z0:=Tryz.sizeOf0
 v0:=Tryz.zeroValue0
 t3:=Tryz.underlying3
 a3:=Tryz.isAgg3
 z3:=Tryz.sizeOf3
 v3:=Tryz.zeroValue3
 t4:=Tryz.underlying4
 a4:=Tryz.isAgg4
 z4:=Tryz.sizeOf4
 v4:=Tryz.zeroValue4
 t5:=Tryz.underlying5
 a5:=Tryz.isAgg5
 z5:=Tryz.sizeOf5
 v5:=Tryz.zeroValue5
 t9:=Tryz.underlying9
 a9:=Tryz.isAgg9
 z9:=Tryz.sizeOf9
 v9:=Tryz.zeroValue9
 t22:=Tryz.underlying36
 a22:=Tryz.isAgg36
 z22:=Tryz.sizeOf36
 v22:=Tryz.zeroValue36
 t23:=Tryz.underlying36
 a23:=Tryz.isAgg36
 z23:=Tryz.sizeOf36
 v23:=Tryz.zeroValue36
 t25:=Tryz.underlying3
 a25:=Tryz.isAgg3
 z25:=Tryz.sizeOf3
 v25:=Tryz.zeroValue3
 t32:=Tryz.underlying269
 a32:=Tryz.isAgg269
 z32:=Tryz.sizeOf269
 v32:=Tryz.zeroValue269
 t35:=Tryz.underlying367
 a35:=Tryz.isAgg367
 z35:=Tryz.sizeOf367
 v35:=Tryz.zeroValue367
 t36:=Tryz.underlying368
 a36:=Tryz.isAgg368
 z36:=Tryz.sizeOf368
 v36:=Tryz.zeroValue368
 t41:=Tryz.underlying173
 a41:=Tryz.isAgg173
 z41:=Tryz.sizeOf173
 v41:=Tryz.zeroValue173
 t44:=Tryz.underlying375
 a44:=Tryz.isAgg375
 z44:=Tryz.sizeOf375
 v44:=Tryz.zeroValue375
 t46:=Tryz.underlying23
 a46:=Tryz.isAgg23
 z46:=Tryz.sizeOf23
 v46:=Tryz.zeroValue23
 t53:=Tryz.underlying421
 a53:=Tryz.isAgg421
 z53:=Tryz.sizeOf421
 v53:=Tryz.zeroValue421
 t57:=Tryz.underlying301
 a57:=Tryz.isAgg301
 z57:=Tryz.sizeOf301
 v57:=Tryz.zeroValue301
 t63:=Tryz.underlying433
 a63:=Tryz.isAgg433
 z63:=Tryz.sizeOf433
 v63:=Tryz.zeroValue433
 t64:=Tryz.underlying223
 a64:=Tryz.isAgg223
 z64:=Tryz.sizeOf223
 v64:=Tryz.zeroValue223}
theorem sortsA(m:Nat):AnyZI.SortsIn Tryz.prog sortedA_ren Fence.wide m:=
 ⟨fun blk off cap ss W hH hblk hsz=>callsIn_wide.2 (AnyM.slices_Sort_int sortA blk off cap ss W hH hblk hsz),
  fun p cap W=>callsIn_wide.2 (AnyM.slices_Sort_int_none sortA p cap W)⟩
theorem WC(mb:Option Nat)(W:World):Calls Tryz.prog 185 #[.map mb] W fun e w'=>e=.returned (.func (.func 299) #[] #[.pointer (some ⟨W.heap.size,0,none⟩)])/\w'=W.alloc (.cells #[.map mb] 62):=
 (callsIn_wide (n:=5)).1 (AnyZI.keys_in keysA Fence.wide 5 trivial rfl mb W)
theorem Pm{H:Type}(b nn:Nat)(D0:DataW H)(R:Value->Option (DataW H×List MemPlace))(w:World)(hown:w.ownsMap Tryz.prog 3 R b nn D0)(hmax:Maps.size D0<=maxLen)(hbytes:Maps.size D0*8<=140737488355328):
  Calls Tryz.prog 184 #[.func (.func 299) #[] #[.pointer (some ⟨w.heap.size,0,none⟩)]] (w.alloc (.cells #[.map (some b)] 62)) fun e w'=>∃(v:Value) (ss:List Int),e=.returned v/\ss.Perm (intKeys D0)/\
   w'.ownsRow (w.heap.size+1) 3 1 v ss.length ((ss.mergeSort (fun x y=>decide (x<=y))).map encZ)/\Below (w.heap.size+1) (w.alloc (.cells #[.map (some b)] 62)) w':=by
 have hbl:=hown.lt
 have hseq:SeqGives Fence.wide 2 Tryz.prog 299 #[.pointer (some ⟨w.heap.size,0,none⟩)] encZ (fun ss=>ss.Perm (intKeys D0)) (Maps.size D0) (w.alloc (.cells #[.map (some b)] 62)):=
  AnyZI.keys_gives (ρ:=keysA_ren) {keysA with} Fence.wide _ trivial rfl (by omega) w.heap.size b nn D0 _ (by simp) (by simp) (by
   obtain⟨es,clock,hb,Ft,hs,hD⟩:=hown
   exact⟨es,clock,(Below.heap_alloc _ _ b hbl).trans hb,Ft,hs,hD⟩)
 have cS:=AnyZI.sorted_in sortedA Fence.wide 5 trivial trivial trivial trivial rfl (by omega) (sortsA _) (enters_of Tryz.func110 (by kernel_rfl) rfl) 299 #[.pointer (some ⟨w.heap.size,0,none⟩)] trivial (enters_of Tryz.func299 (by kernel_rfl) rfl) _ _ hmax hbytes _ hseq
 change CallsIn _ _ Tryz.prog 184 _ _ _ at cS
 refine((callsIn_wide (n:=5)).1 cS).mono ?_
 rintro e w' ⟨v,ss,rfl,hS,hrow,hnil,hb⟩
 have hz:(w.alloc (.cells #[.map (some b)] 62)).heap.size=w.heap.size+1:=by simp
 rw[hz]at hrow hb
 exact⟨v,ss,rfl,hS,hrow,hb⟩
end It
end Go.Proofs.YtolkgbafebehfaaGreat
namespace Go.Proofs.YtolkgbafebehfaaGreat
open Go.RowKit Go.Maps
set_option maxRecDepth 100000
namespace aJ
def ku(w:World)(b n:Nat)(s:Int->Bool):Prop:=
 ∃D:DataW Unit,w.ownsMap Tryz.prog 3 (plainElem Tryz.prog 4) b n D/\∀x,has D (.int .i64 x)=s x
theorem ku.lt{w:World}{b n:Nat}{s:Int->Bool}(h:ku w b n s):b<w.heap.size:=by
 obtain⟨D,h,_⟩:=h
 exact h.lt
theorem ku.mono{w:World}{b n n':Nat}{s:Int->Bool}(h:ku w b n s)(hn:n<=n'):ku w b n' s:=by
 obtain⟨D,ho,hD⟩:=h
 exact⟨D,ho.mono hn,hD⟩
theorem ku.store{w:World}{b n:Nat}{s:Int->Bool}(h:ku w b n s)(hn:n<maxLen){x:Int}(hx:I64 x):
  ∃w',(Instr.mapUpdate 62 (.map (some b)) (.int .i64 x) (.bool true)).run Tryz.prog w=.ok () w'/\ku w' b (n+1) (fun y=>decide (y=x)||s y)/\w.grownBy w' (some b):=by
 obtain⟨D,ho,hD⟩:=h
 obtain⟨w',hrun,ho',hg⟩:=ho.update jy Tryz.underlying62 hn (pF hx) (plainElem_bool Tryz.underlying4 true)
 refine⟨w',hrun,⟨_,ho',?_⟩,hg⟩
 intro y
 have hm:IsMap D:=ho.isMap
 have hl:WideAt.IsKeyLit (.int .i64 x):=by trivial
 by_cases e:y=x
 ·subst e
  rw[has_put_same hm hl]
  simp
 ·have hne:(Lit.int .i64 y)≠ .int .i64 x:=fun h=>e (by injection h)
  rw[has_put_other hne,hD y]
  simp[e]
theorem ku.kept{F:Nat->Prop}{w w':World}{b n:Nat}{s:Int->Bool}(h:ku w b n s)(hk:Kept F w w')(hf:¬F b):ku w' b n s:=by
 obtain⟨D,ho,hD⟩:=h
 have hlt:=ho.lt
 obtain⟨es,clock,hb,hF,hs,e⟩:=ho
 exact⟨D,⟨es,clock,(hk.block b hlt hf).trans hb,hF,hs,e⟩,hD⟩
theorem ku.made(w:World):ku (w.alloc (.map #[] 0)) w.heap.size 0 (fun _=>false):=
 ⟨_,World.ownsMap_made w _ _ _,fun x=>rfl⟩
def cu(m:Safe)(ps:List Pc)(x:Int):Bool:=(m x).isSome||ps.any fun p=>decide (p.1=x)
theorem ab1{w:World}{b n:Nat}{R:Value->Option (DataW Unit×List MemPlace)}{D:DataW Unit}(hown:w.ownsMap Tryz.prog 3 R b n D):(intKeys D).Nodup/\∀x,x∈intKeys D↔has D (.int .i64 x)=true:=by
 obtain⟨es,hD,hpw,_⟩:=hown.entries jy
 obtain⟨es',hD',hko⟩:=hown.keysOf
 obtain rfl:es=es':=by rw[hD]at hD';simpa using hD'
 subst hD
 have hk:∀p∈es,∃x,p.1=.int .i64 x:=fun p hp=>by obtain⟨v,hv⟩:=hko p hp;obtain⟨x,_,hx,_⟩:=Maps.keyOf_i64 Tryz.underlying3 hv;exact⟨x,hx⟩
 refine⟨?_,fun x=> ?_⟩
 ·show(es.map fun p=>Go.intOf p.1).Nodup
  refine List.pairwise_map.2 (hpw.imp_of_mem fun{p q} hp' hq' hne e=>hne ?_)
  obtain⟨a,ha⟩:=hk p hp'
  obtain⟨b,hb⟩:=hk q hq'
  rw[ha,hb]at e⊢
  exact congrArg _ e
 ·rw[has_eq,List.any_eq_true]
  show x∈es.map (fun p=>Go.intOf p.1)↔_
  rw[List.mem_map]
  constructor
  ·rintro⟨p,hp',rfl⟩
   obtain⟨a,ha⟩:=hk p hp'
   exact⟨p,hp',by rw[ha];simp[Lit.sameKey,Go.intOf]⟩
  ·rintro⟨p,hp',hs⟩
   obtain⟨a,ha⟩:=hk p hp'
   rw[ha]at hs
   exact⟨p,hp',by rw[ha];simpa [Lit.sameKey,Go.intOf,eq_comm]using hs⟩
structure zl(m:Safe)(ps:List Pc)(fl:List Int):Prop where
 rises:fl.Pairwise (· <·)
 mem:∀x,x∈fl↔I64 x/\cu m ps x=true
def SK(w:World)(m:Safe)(ps:List Pc)(e:Ending)(w':World):Prop:=
 ∃fl A c,e=.returned (.slice A fl.length c)/\zl m ps fl/\w'.ownsRow 0 3 1 (.slice A fl.length c) fl.length (fl.map (Value.int .i64))/\(∀k,(Value.slice A fl.length c).ownBlock=some k->w.heap.size<=k)/\Kept aj w w'
variable{F:Nat->Prop}{w:World}{g n:Nat}{m:Safe}{ps:List Pc}{aV aO:Int}
theorem qV(h:aX w g F n m ps aV aO)(hpi:∀p∈ps,I64 p.1)(hn:n<=100000)(hlen:ps.length<=100000):
  Calls Tryz.prog 95 #[.pointer (some ⟨g,0,none⟩)] w (SK w m ps):=by
 have hno:=dN h
 have HN:=ah hno;clear hno
 obtain⟨mb,A,c,hF,hg,hm,ho⟩:=h
 obtain⟨D0,hown0,hD0⟩:=hm
 have HD0:=ah hD0;clear hD0
 have c0:w.cell? ⟨g,0,none⟩=some (.map (some mb)):=hg.cell 0
 have hgl:=hg.lt
 have hown1:=hown0.alloc (.map #[] 0)
 have hml:=hown0.lt
 have HG:=ah hg;clear hg
 have HS:=ah (Src.bC ho);clear ho
 have uY:=ah hpi;clear hpi
 have hmk:= @run_makeMap Tryz.prog
 have hsz0:=hown0.size_le
 clear hF hown0
 go_enter Tryz.func95,Tryz.ntmps95
 go_wp2_with fail
 refine HN.out.mono ?_
 rintro e w' ⟨rfl,rfl⟩
 have HW0:=ah ((Kept.refl aj w).alloc (.map #[] 0))
 have Yw:=ah (ku.made w)
 go_wp2_with (first
  |(at_range;refine wpList_range_own _ rfl _ 101 rfl 3 9 jy Tryz.underlying101 _ mb _ _ rfl hown1 ?_;intro w0 hrg0 hg0 hs0)
  |go_in)
 go_frame
 clear hmk
 have aaM:(w.alloc (.map #[] 0)).heap.size=w.heap.size+1:=by simp
 rw[aaM]at hrg0 hs0⊢
 have hk0:Kept aj w w0:=HW0.out.grownBy hg0 (fun k hk=>by cases hk)
 have hm0:ku w0 w.heap.size 0 (fun x=>has D0 (.int .i64 x)&& !has D0 (.int .i64 x)):=by
  have e:(fun x:Int=>has D0 (.int .i64 x)&& !has D0 (.int .i64 x))=fun _=>false:=by funext x;cases has D0 (.int .i64 x)<;>rfl
  rw[e]
  exact Yw.out.kept ((Kept.refl aj _).grownBy hg0 (fun k hk=>by cases hk)) (fun x=>x)
 have aW:=ah hk0;clear hk0
 have fQ:=ah hm0;clear hm0
 clear hg0 hs0 aaM
 go_loopw [4] (fun v4 wr=>∃(left:Lit->Bool) (cnt na:Nat),wr.ranges Tryz.prog 3 (plainElem Tryz.prog 9) mb (w.heap.size+1) n D0 left cnt/\na+cnt<=Maps.size D0/\ku wr w.heap.size na (fun x=>has D0 (.int .i64 x)&& !left (.int .i64 x))/\Kept aj w wr) (fun _ wr=>wr.rangeLeft mb (w.heap.size+1))
 case atStart=>exact⟨_,_,0,hrg0,by simp,fQ.out,aW.out⟩
 case round=>
  obtain⟨left,cnt,na,hrg,hcs,hse,hk⟩:=hrel
  have vg:=ah hse;clear hse
  have HK:=ah hk;clear hk
  have hsz:=HK.out.size
  go_wp2_with (first
   |(at_next;refine wpList_next_ranges _ rfl _ rfl 3 jy (plainElem Tryz.prog 9) encZ (fun v:Value=>v) (fun key kl hk=>by obtain⟨x,hx,_⟩:=Maps.keyOf_i64 Tryz.underlying3 hk;exact⟨x,hx⟩) (fun v y hv=>⟨v,rfl⟩) mb (w.heap.size+1) n _ _ _ rfl hrg ?_ ?_)
   |go_in)
  ·intro hc0 hl0
   have JA:ku wr w.heap.size n (fun x=>has D0 (.int .i64 x)||([]:List Pc).any fun p=>decide (p.1=x)):=by
    have e:(fun x:Int=>has D0 (.int .i64 x)&& !left (.int .i64 x))=fun x=>has D0 (.int .i64 x)||([]:List Pc).any fun p=>decide (p.1=x):=by funext x;rw[hl0];simp
    rw[<-e]
    exact vg.out.mono (by omega)
   have acH:=ah JA;clear JA vg
   have c1:wr.cell? ⟨g,1,none⟩=some (.slice A ps.length c):=(HG.out.kept HK.out (fun x=>x)).cell 1
   clear hrg hl0
   obtain⟨w1,hw1⟩:∃w1:World,w1=wr:=⟨_,rfl⟩
   subst hw1
   go_wp2_with fail
   go_loopw [6,26] (fun v6 v26 wr=>∃i:Nat,i<=ps.length/\v26=.int .i64 i/\ku wr w.heap.size (n+i) (fun x=>has D0 (.int .i64 x)||(ps.take i).any fun p=>decide (p.1=x))/\Kept aj w wr) (fun _ v26 _=>ps.length-(RowKit.intOf v26).toNat)
   case atStart=>exact⟨0,Nat.zero_le _,rfl,acH.out,HK.out⟩
   case round=>
    obtain⟨i,hi,rfl,hse,hk⟩:=hrel
    have vg:=ah hse;clear hse
    have HK:=ah hk;clear hk
    have hsz:=HK.out.size
    by_cases hil:i<ps.length
    ·obtain⟨q,hq⟩:∃q,ps[i]? =some q:=⟨_,List.getElem?_eq_getElem hil⟩
     obtain⟨ad,rfl,hl1,e0,e1⟩:=zk (HS.out.kept HK.out (fun _ _ x=>x)) (by omega) i q hq
     have hq1:I64 q.1:=uY.out q (List.mem_of_getElem? hq)
     have hwl:=vg.out.lt
     obtain⟨w3,hst,JB,hg3⟩:=ku.store (w:=wr.alloc (.cells #[.int .i64 q.1,.string q.2] 118)) (vg.out.kept ((Kept.refl aj _).alloc _) (fun x=>x)) (by unfold maxLen;omega) hq1
     have JC:ku w3 w.heap.size (n+(i+1)) (fun x=>has D0 (.int .i64 x)||(ps.take (i+1)).any fun p=>decide (p.1=x)):=by
      have e:(fun y:Int=>decide (y=q.1)||(has D0 (.int .i64 y)||(ps.take i).any fun p=>decide (p.1=y)))=fun y=>has D0 (.int .i64 y)||(ps.take (i+1)).any fun p=>decide (p.1=y):=by
       funext y
       rw[take_snoc hq,List.any_append]
       by_cases hy:y=q.1
       ·subst hy;simp
       ·have hy':¬q.1=y:=fun h=>hy h.symm
        simp[hy,hy']
      rw[<-e]
      exact JB
     have hk3:Kept aj w w3:=(HK.out.alloc _).grownBy hg3 (fun k hk=>by injection hk with hk;exact .inr (by omega))
     have WE:=ah JC;clear JC JB
     have bf:=ah hk3;clear hk3 hg3
     obtain⟨q1,q2⟩:=q
     dsimp only at e0 e1 hst
     clear hq hq1
     go_wp2_with fail
     go_roundw
     case rel=>exact⟨i+1,by omega,by go_num,WE.out,bf.out⟩
     case measure=>simp[RowKit.intOf];omega
    ·obtain rfl:i=ps.length:=by omega
     rw[List.take_length]at vg
     obtain⟨D,Eu,hDs⟩:=vg.out
     have hDz:=Eu.size_le
     have hkz:=ab1 Eu
     have hwf:=intKeys_wf Eu Tryz.underlying3
     go_wp2_with fail
     refine(It.WC _ _).mono ?_
     rintro e w' ⟨rfl,rfl⟩
     go_wp2_with fail
     refine(It.Pm w.heap.size _ D _ wr Eu (by unfold maxLen;omega) (by omega)).mono ?_
     rintro e w2 ⟨v,ss,rfl,hperm,hrow,hb2⟩
     obtain⟨A',c',rfl,hcc⟩:=yK hrow
     have hfa:zl m ps (ss.mergeSort leI):=by
      have tr:∀a b c:Int,leI a b=true->leI b c=true->leI a c=true:=fun a b c h1 h2=>by simp only[leI,decide_eq_true_eq]at*;exact Int.le_trans h1 h2
      have to:∀a b:Int,(leI a b||leI b a)=true:=fun a b=>by simp only[leI,Bool.or_eq_true,decide_eq_true_eq];exact Int.le_total a b
      have h1:=List.pairwise_mergeSort tr to ss
      have h2:(ss.mergeSort leI).Nodup:=(List.mergeSort_perm ss leI).nodup_iff.2 (hperm.nodup_iff.2 hkz.1)
      refine⟨(h1.and h2).imp fun{a b} h=>by have:=h.1;simp only[leI,decide_eq_true_eq]at this;have:=h.2;omega,fun x=> ?_⟩
      rw[List.mem_mergeSort,hperm.mem_iff,hkz.2 x,hDs x]
      constructor
      ·intro hx
       have hi:I64 x:=hwf x ((hkz.2 x).2 (by rw[hDs x];exact hx))
       refine⟨hi,?_⟩
       rw[(HD0.out x hi).1]at hx
       exact hx
      ·rintro⟨hi,hx⟩
       rw[(HD0.out x hi).1]
       exact hx
     have hrow0:w2.ownsRow 0 3 1 (.slice A' ss.length c') ss.length ((ss.mergeSort leI).map (Value.int .i64)):=⟨hrow.1,hrow.2.imp id fun⟨g,cap,cur,a,_,c⟩=>⟨g,cap,cur,a,Nat.zero_le _,c⟩⟩
     have hnew:=hrow.lt
     have hk2:Kept aj w w2:=(HK.out.alloc _).then (Kept.of_below (hb2.mono (B':=wr.heap.size+1) (Nat.le_refl _)) (fun k hk _=>by simpa using hk))
     have hlen2:(ss.mergeSort leI).length=ss.length:=List.length_mergeSort _
     have iI:=ah hrow0;clear hrow0 hrow
     have fE:=ah hnew;clear hnew
     have Ew:=ah hfa;clear hfa
     have aQ:=ah hk2;clear hk2
     have jW:=ah hlen2;clear hlen2
     clear hperm hkz hwf hDs hb2 Eu hcc
     go_wp2_with fail
     go_ret
     exact⟨ss.mergeSort leI,A',c',by rw[jW.out];rfl,Ew.out,by rw[jW.out];exact iI.out,by rw[jW.out];exact fun k hk=>by have:=(fE.out k hk).1;omega,aQ.out⟩
  ·intro x cb kl yd yp w2 cnt2 hkey hlk hv hat hrg2 hlt hg2 hs2 hen
   obtain⟨x',ex,rfl,hxw⟩:=Maps.keyOf_i64 Tryz.underlying3 hkey
   obtain rfl:x=x':=encZ_inj ex
   have hk2:Kept aj w w2:=HK.out.grownBy hg2 (fun k hk=>by injection hk with hk;exact .inr (by omega))
   have JA:ku w2 w.heap.size na (fun x=>has D0 (.int .i64 x)&& !left (.int .i64 x)):=vg.out.kept ((Kept.refl (fun k=>k=w.heap.size+1) wr).grownBy hg2 (fun k hk=>by injection hk with hk;exact .inl hk.symm)) (by omega)
   obtain⟨w3,hst,JB,hg3⟩:=JA.store (by unfold maxLen;omega) hxw
   have hhas:has D0 (.int .i64 x)=true:=has_true_of_atKey hat
   have JC:ku w3 w.heap.size (na+1) (fun y=>has D0 (.int .i64 y)&& !(left (.int .i64 y)&& !(Lit.int .i64 y).sameKey (.int .i64 x))):=by
    have e:(fun y:Int=>decide (y=x)||(has D0 (.int .i64 y)&& !left (.int .i64 y)))=fun y=>has D0 (.int .i64 y)&& !(left (.int .i64 y)&& !(Lit.int .i64 y).sameKey (.int .i64 x)):=by
     funext y
     by_cases hy:y=x
     ·subst hy;simp[hhas,Lit.sameKey]
     ·simp[hy,Lit.sameKey]
    rw[<-e]
    exact JB
   have hrg3:=hrg2.kept hg3 (fun e=>by have:=Option.some.inj e;omega) (fun e=>by have:=Option.some.inj e;omega)
   have hk3:Kept aj w w3:=hk2.grownBy hg3 (fun k hk=>by injection hk with hk;exact .inr (by omega))
   have WE:=ah JC;clear JC JB JA
   have bf:=ah hk3;clear hk3 hk2
   clear hs2 hkey hv hat hhas hg3
   unfold encZ at hen
   go_wp2_with fail
   go_roundw
   case rel=>exact⟨_,cnt2,na+1,hrg3,by omega,WE.out,bf.out⟩
   case measure=>rw[hrg3.left_eq,hrg.left_eq];exact hlt
end aJ
end Go.Proofs.YtolkgbafebehfaaGreat
namespace Go.Proofs.YtolkgbafebehfaaGreat
open Go.RowKit
set_option maxRecDepth 100000
namespace AU
theorem vF{w:World}{A:Option Addr}{k:Nat}{l:List Int}(h:Src w 1 A k (l.map (Value.int .i64)))(hm:0<k)(i:Nat)(p:Int)(hp:l[i]? =some p):
  ∃ad:Addr,A=some ad/\ad.block<w.heap.size/\w.cell? (ad.add i)=some (.int .i64 p):=by
 obtain⟨ad,e,hb,hc⟩:=h.2 hm
 exact⟨ad,e,hb,hc i _ (by rw[List.getElem?_map,hp];rfl)⟩
theorem drop_cons{α:Type}{l:List α}{i:Nat}{p:α}(h:l[i]? =some p):l.drop i=p::l.drop (i+1):=by
 obtain⟨hi,e⟩:=List.getElem?_eq_some_iff.1 h
 rw[List.drop_eq_getElem_cons hi,e]
def inB(l:List Int)(x:Int):Bool:=l.contains x
theorem sS{l:List Int}{x:Int}:inB l x=true↔x∈l:=by unfold inB;simp
theorem yY(w:World)(A:Option Addr)(c:Nat)(l:List Int)(x:Int)(hl:Src w 1 A l.length (l.map (Value.int .i64)))(hlen:l.length<=maxLen):
  Calls Tryz.prog 246 #[.slice A l.length c,.int .i64 x] w fun e w'=>(∃n:Int,e=.returned (.int .i64 n)/\(0<=n↔x∈l))/\w=w':=by
 unfold maxLen at hlen
 have HL:=ah hl;clear hl
 go_enter Tryz.func246,Tryz.ntmps246
 go_wp2_with fail
 go_loop [5,8] (fun v5 v8=>∃i:Nat,i<=l.length/\v8=.int .i64 i/\(x∈l↔x∈l.drop i)) (fun _ v8=>l.length-(intOf v8).toNat)
 case atStart=>exact⟨0,Nat.zero_le _,rfl,Iff.rfl⟩
 case round=>
  obtain⟨i,hi,rfl,he⟩:=hrel
  have HE:=ah he;clear he
  by_cases hil:i<l.length
  ·obtain⟨b,hb⟩:∃b,l[i]? =some b:=⟨_,List.getElem?_eq_getElem hil⟩
   obtain⟨ad,rfl,had,e0⟩:=vF HL.out (by omega) i b hb
   have hs:x∈l.drop i↔x=b\/x∈l.drop (i+1):=by rw[drop_cons hb,List.mem_cons]
   have HS:=ah hs;clear hs hb
   by_cases hbx:x=b
   ·subst hbx
    go_wp2
    go_ret
    exact⟨⟨_,rfl,⟨fun _=>by rw[HE.out,HS.out];simp,fun _=>by omega⟩⟩,rfl⟩
   ·have hne:(x==b)=false:=by simpa using hbx
    go_wp2
    go_round
    case rel=>exact⟨i+1,by omega,by go_num,by rw[HE.out,HS.out];simp[hbx]⟩
    case measure=>simp[intOf];omega
  ·obtain rfl:i=l.length:=by omega
   go_wp2
   go_ret
   exact⟨⟨-1,rfl,⟨fun h=>by omega,fun h=>by rw[HE.out,List.drop_length]at h;cases h⟩⟩,rfl⟩
theorem kV(w:World)(A:Option Addr)(c:Nat)(l:List Int)(x:Int)(hl:Src w 1 A l.length (l.map (Value.int .i64)))(hlen:l.length<=maxLen):
  Calls Tryz.prog 142 #[.slice A l.length c,.int .i64 x] w fun e w'=>e=.returned (.bool (inB l x))/\w=w':=by
 have hi:=yY w A c l x hl hlen
 have HI:=ah hi;clear hi hl
 by_cases hx:x∈l
 ·have hb:inB l x=true:=sS.2 hx
  rw[hb]
  have HX:=ah hx;clear hx
  go_enter Tryz.func142,Tryz.ntmps142
  go_wp2_with fail
  refine HI.out.mono ?_
  rintro e w2 ⟨⟨n,rfl,hn⟩,rfl⟩
  have hn0:0<=n:=hn.2 HX.out
  clear hn
  go_wp2
  go_ret
  exact⟨rfl,rfl⟩
 ·have hb:inB l x=false:=by unfold inB;simpa using hx
  rw[hb]
  have HX:=ah hx;clear hx
  go_enter Tryz.func142,Tryz.ntmps142
  go_wp2_with fail
  refine HI.out.mono ?_
  rintro e w2 ⟨⟨n,rfl,hn⟩,rfl⟩
  have hn0:¬0<=n:=fun h=>HX.out (hn.1 h)
  clear hn
  go_wp2
  go_ret
  exact⟨by have h2:decide (0<=n)=false:=decide_eq_false (by omega)
           simp[h2],rfl⟩
theorem Gt{w:World}{A:Option Addr}{k:Nat}{l:List ByteArray}(h:Src w 1 A k (l.map Value.string))(hm:0<k)(i:Nat)(p:ByteArray)(hp:l[i]? =some p):
  ∃ad:Addr,A=some ad/\ad.block<w.heap.size/\w.cell? (ad.add i)=some (.string p):=by
 obtain⟨ad,e,hb,hc⟩:=h.2 hm
 exact⟨ad,e,hb,hc i _ (by rw[List.getElem?_map,hp];rfl)⟩
end AU
namespace aJ
def mA:Safe:=kK (fun _=>none) [(1,⟨#[97,98]⟩)]
theorem jq{k:Int}(h0:0<=k)(h1:k<=4611686018427387904):I64 k:=by
 unfold I64 Lit.wf
 have hb:(2:Int)^(IntKind.i64.bits-1)=9223372036854775808:=by decide
 simp[IntKind.signed,IntKind.min,IntKind.max,hb]
 omega
end aJ
end Go.Proofs.YtolkgbafebehfaaGreat

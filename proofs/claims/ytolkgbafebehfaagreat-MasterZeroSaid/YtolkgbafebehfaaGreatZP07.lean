/- Part 8 of what the proof needs. -/
import Derived.Test.YtolkgbafebehfaaGreatZP06
set_option linter.unusedSimpArgs false
set_option linter.unusedVariables false
set_option maxHeartbeats 32000000
set_option maxRecDepth 100000
namespace Go.Proofs.YtolkgbafebehfaaGreat
open Go.RowKit
set_option maxRecDepth 100000
namespace gX
open aP Ops zY Vn
theorem IY(w:World)(b c:Nat)(hc:isNum c=true):
  Calls Tryz.prog 235 #[.pointer (some ⟨b,0,none⟩),.int .i32 c] w fun e w'=>e=.returned (.pointer (some ⟨b,numAt c,none⟩))/\w=w':=by
 have h:c=101\/c=115\/c=114\/c=110\/c=109\/c=112:=of_decide_eq_true hc
 clear hc
 rcases h with rfl|rfl|rfl|rfl|rfl|rfl
 all_goals
  go_enter Tryz.func235,Tryz.ntmps235
  go_wp2
  go_ret
  exact⟨rfl,rfl⟩
theorem gQ(w:World)(b c:Nat)(hl:c∈letters)(hc:isNum c=false):
  Calls Tryz.prog 235 #[.pointer (some ⟨b,0,none⟩),.int .i32 c] w fun e w'=>e=.returned (.pointer none)/\w=w':=by
 have h:c=67\/c=97\/c=102\/c=108\/c=69\/c=83\/c=66\/c=120\/c=107\/c=116\/c=82:=by
  unfold letters at hl
  simp only[List.mem_cons,List.not_mem_nil,or_false]at hl
  have h2:¬(c=101\/c=115\/c=114\/c=110\/c=109\/c=112):=of_decide_eq_false hc
  omega
 clear hc hl
 rcases h with rfl|rfl|rfl|rfl|rfl|rfl|rfl|rfl|rfl|rfl|rfl
 all_goals
  go_enter Tryz.func235,Tryz.ntmps235
  go_wp2
  go_ret
  exact⟨rfl,rfl⟩
theorem FX(w:World)(k:Int)(h:isKind k=true):
  Calls Tryz.prog 138 #[.int .i64 k] w fun e w'=>e=.returned (.tuple #[.string (lets (partsOf k)),.bool true])/\Kept aj w w':=by
 have h0:1<=k/\k<=15:=of_decide_eq_true h
 clear h
 have h1:k=1\/k=2\/k=3\/k=4\/k=5\/k=6\/k=7\/k=8\/k=9\/k=10\/k=11\/k=12\/k=13\/k=14\/k=15:=by omega
 clear h0
 rcases h1 with rfl|rfl|rfl|rfl|rfl|rfl|rfl|rfl|rfl|rfl|rfl|rfl|rfl|rfl|rfl
 all_goals
  go_enter Tryz.func138,Tryz.ntmps138
  go_wp2
  go_ret2
  exact⟨rfl,by(repeat'(first|(with_reducible first|exact ak|apply au|apply ay|apply aA|apply aB)|(right;simp;done)))⟩
theorem VH(w:World)(k:Int)(h:isKind k=false):
  Calls Tryz.prog 138 #[.int .i64 k] w fun e w'=>e=.returned (.tuple #[.string emp,.bool false])/\Kept aj w w':=by
 have h0:¬(1<=k/\k<=15):=of_decide_eq_false h
 clear h
 by_cases h1:k<1
 ·go_enter Tryz.func138,Tryz.ntmps138
  go_wp2
  go_ret2
  exact⟨rfl,by(repeat'(first|(with_reducible first|exact ak|apply au|apply ay|apply aA|apply aB)|(right;simp;done)))⟩
 ·have h2:16<=k:=by omega
  clear h0
  go_enter Tryz.func138,Tryz.ntmps138
  go_wp2
  go_ret2
  exact⟨rfl,by(repeat'(first|(with_reducible first|exact ak|apply au|apply ay|apply aA|apply aB)|(right;simp;done)))⟩
theorem sO(w:World)(s:ByteArray)(n:Int):Calls Tryz.prog 236 #[.string s,.int .i64 n] w fun e w'=>e=.returned (.int .i64 (if n<s.size then 3 else 0))/\w=w':=by
 by_cases h:n<s.size
 ·rw[if_pos h]
  go_enter Tryz.func236,Tryz.ntmps236
  go_wp2
  go_ret
  exact⟨rfl,rfl⟩
 ·rw[if_neg h]
  go_enter Tryz.func236,Tryz.ntmps236
  go_wp2
  go_ret
  exact⟨rfl,rfl⟩
theorem Dt(w:World)(n m:Int):Calls Tryz.prog 239 #[.int .i64 n,.int .i64 m] w fun e w'=>e=.returned (.int .i64 (if m<n then 6 else 0))/\w=w':=by
 by_cases h:m<n
 ·rw[if_pos h]
  go_enter Tryz.func239,Tryz.ntmps239
  go_wp2
  go_ret
  exact⟨rfl,rfl⟩
 ·rw[if_neg h]
  go_enter Tryz.func239,Tryz.ntmps239
  go_wp2
  go_ret
  exact⟨rfl,rfl⟩
theorem QT(w:World)(n:Int)(v:Value)(h:n≠0):Calls Tryz.prog 238 #[.int .i64 n,v] w fun e w'=>e=.returned (.int .i64 n)/\w=w':=by
 have h2:(n !=0)=true:=by simpa using h
 clear h
 go_enter Tryz.func238,Tryz.ntmps238
 go_wp2
 go_ret
 exact⟨rfl,rfl⟩
theorem Yf(w:World)(g:Nat)(cap:Value)(r:Int)(eg:∀args w,(callFunc g args).run Tryz.prog w=.ok (.enter g args) w)
  (hf:Calls Tryz.prog g #[cap] w fun e w'=>e=.returned (.int .i64 r)/\Kept aj w w'):
  Calls Tryz.prog 238 #[.int .i64 0,.func (.func g) #[] #[cap]] w fun e w'=>e=.returned (.int .i64 r)/\Kept aj w w':=by
 have HF:=ah hf;clear hf
 go_enter Tryz.func238,Tryz.ntmps238
 go_wp2_with fail
 refine HF.out.mono ?_
 rintro e w2 ⟨rfl,hk⟩
 have HK:=ah hk;clear hk
 go_wp2
 go_ret
 exact⟨rfl,HK.out⟩
theorem LQ(w:World)(A:Option Addr)(c:Nat)(l:List kF)(hl:Src w 4 A l.length (vU l))(hlen:l.length<=1000000)(ho:∀y∈l,Src w 3 y.A y.ops.length (cells y.ops)):
  Calls Tryz.prog 241 #[.slice A l.length c] w fun e w'=>e=.returned (.int .i64 (dI (fun y=>Ops.chk (mV y)) l))/\Kept aj w w':=by
 have HL:=ah hl;clear hl
 have hcall:=fun W (hW:Kept aj w W) y (hy:y∈l)=>Mst.D4 W (mV y) y.A y.c y.ts ((ho y hy).kept hW (fun _ _ z=>z))
 have eX:=ah hcall;clear hcall ho
 obtain⟨r,hr⟩:∃r,dI (fun y=>Ops.chk (mV y)) l=r:=⟨_,rfl⟩
 rw[hr]
 have HR:=ah hr;clear hr
 go_enter Tryz.func241,Tryz.ntmps241
 go_wp2_with fail
 go_loopw [8] (fun v8 wr=>∃i:Nat,i<=l.length/\v8=.int .i64 i/\r=dI (fun y=>Ops.chk (mV y)) (l.drop i)/\Kept aj w wr) (fun v8 _=>l.length-(intOf v8).toNat)
 case atStart=>exact⟨0,Nat.zero_le _,rfl,HR.out.symm,Kept.refl _ _⟩
 case round=>
  obtain⟨i,hi,rfl,hrr,hk⟩:=hrel
  have HK:=ah hk;clear hk
  by_cases hil:i<l.length
  ·obtain⟨y,hy⟩:∃y,l[i]? =some y:=⟨_,List.getElem?_eq_getElem hil⟩
   obtain⟨ad,rfl,hl1,e0,e1,e2,e3⟩:=FW (HL.out.kept HK.out (fun _ _ z=>z)) (by omega) i y hy
   have hsa:=yS (fun y=>Ops.chk (mV y)) hy
   have hcall:=eX.out (wr.alloc (.cells #[.int .i64 y.cl,.int .i64 y.req,.slice y.A y.ops.length y.c,.int .u64 y.ts] 98)) (HK.out.alloc _) y (List.mem_of_getElem? hy)
   rw[hsa]at hrr
   obtain⟨t,ht⟩:∃t,Ops.chk (mV y)=t:=⟨_,rfl⟩
   rw[ht]at hcall hrr
   dsimp only[mV]at hcall
   have HC:=ah hcall
   have HRR:=ah hrr
   clear hsa ht hy hcall hrr
   go_wp2_with fail
   refine HC.out.mono ?_
   rintro e w5 ⟨rfl,hk0⟩
   have cO:=ah ((HK.out.alloc _).then hk0);clear hk0
   by_cases h0:t=0
   ·subst h0
    have hrf:=HRR.out
    rw[if_pos rfl]at hrf
    have lH:=ah hrf;clear hrf HRR
    go_wp2
    go_roundw
    case rel=>exact⟨i+1,by omega,by go_num,lH.out,cO.out⟩
    case measure=>simp[intOf];omega
   ·have hrf:=HRR.out
    rw[if_neg h0]at hrf
    have lH:=ah hrf;clear hrf HRR
    have h2:(t !=0)=true:=by simpa using h0
    clear h0
    go_wp2
    go_ret
    exact⟨by rw[lH.out];rfl,cO.out⟩
  ·obtain rfl:i=l.length:=by omega
   rw[List.drop_length,dI]at hrr
   have HRR:=ah hrr;clear hrr
   go_wp2
   go_ret
   exact⟨by rw[HRR.out];rfl,HK.out⟩
theorem QU(w:World)(A:Option Addr)(c:Nat)(l:List kT)(hl:Src w 2 A l.length (aK l))(hlen:l.length<=1000000):
  Calls Tryz.prog 243 #[.slice A l.length c] w fun e w'=>e=.returned (.int .i64 (dI oL l))/\Kept aj w w':=by
 have HL:=ah hl;clear hl
 obtain⟨r,hr⟩:∃r,dI oL l=r:=⟨_,rfl⟩
 rw[hr]
 have HR:=ah hr;clear hr
 go_enter Tryz.func243,Tryz.ntmps243
 go_wp2_with fail
 go_loopw [9] (fun v9 wr=>∃i:Nat,i<=l.length/\v9=.int .i64 i/\r=dI oL (l.drop i)/\Kept aj w wr) (fun v9 _=>l.length-(intOf v9).toNat)
 case atStart=>exact⟨0,Nat.zero_le _,rfl,HR.out.symm,Kept.refl _ _⟩
 case round=>
  obtain⟨i,hi,rfl,hrr,hk⟩:=hrel
  have HK:=ah hk;clear hk
  by_cases hil:i<l.length
  ·obtain⟨y,hy⟩:∃y,l[i]? =some y:=⟨_,List.getElem?_eq_getElem hil⟩
   obtain⟨ad,rfl,hl1,e0,e1⟩:=pair_cells (HL.out.kept HK.out (fun _ _ z=>z)) (by omega) i y hy
   have hsa:=yS oL hy
   rw[hsa]at hrr
   have hkc:=DZ y.key
   have hlo:=fun W=>sO W y.val 8
   unfold oL at hrr
   change∀w:World,Calls Tryz.prog 338 #[.string y.key] w fun e w'=>e=.returned (.int .i64 (keyE y.key))/\w=w' at hkc
   obtain⟨t,ht⟩:∃t,keyE y.key=t:=⟨_,rfl⟩
   rw[ht]at hkc hrr
   obtain⟨u,hu⟩:∃u:Int,(if(8:Int)<(y.val.size:Int)then (3:Int)else 0)=u:=⟨_,rfl⟩
   rw[hu]at hlo
   have hu2:(if 8<y.val.size then (3:Int)else 0)=u:=by rw[<-hu];by_cases h8:8<y.val.size;rw[if_pos h8,if_pos (by omega)];rw[if_neg h8,if_neg (by omega)]
   rw[hu2]at hrr
   have HC:=ah hkc
   have QV:=ah hlo
   have HRR:=ah hrr
   clear hsa ht hu hu2 hy hkc hlo hrr
   go_wp2_with fail
   refine(HC.out _).mono ?_
   rintro e w5 ⟨rfl,rfl⟩
   by_cases h0:t=0
   ·subst h0
    have hrf:=HRR.out
    rw[if_neg (show¬((0:Int)≠0)from fun h=>h rfl)]at hrf
    have lH:=ah hrf;clear hrf HRR
    go_wp2_with fail
    refine(QV.out _).mono ?_
    rintro e w5 ⟨rfl,rfl⟩
    by_cases h1:u=0
    ·subst h1
     have hrf:=lH.out
     rw[if_pos rfl]at hrf
     have lH:=ah hrf;clear hrf
     go_wp2
     go_roundw
     case rel=>exact⟨i+1,by omega,by go_num,lH.out,by(repeat'(first|(with_reducible first|exact ak|apply au|apply ay|apply aA|apply aB)|(exact HK.out)|(right;simp;done)))⟩
     case measure=>simp[intOf];omega
    ·have hrf:=lH.out
     rw[if_neg h1]at hrf
     have lH:=ah hrf;clear hrf
     have h2:(u !=0)=true:=by simpa using h1
     clear h1
     go_wp2
     go_ret
     exact⟨by rw[lH.out];rfl,by(repeat'(first|(with_reducible first|exact ak|apply au|apply ay|apply aA|apply aB)|(exact HK.out)|(right;simp;done)))⟩
   ·have hrf:=HRR.out
    rw[if_pos h0,if_neg h0]at hrf
    have lH:=ah hrf;clear hrf HRR
    have h2:(t !=0)=true:=by simpa using h0
    clear h0
    go_wp2
    go_ret
    exact⟨by rw[lH.out];rfl,by(repeat'(first|(with_reducible first|exact ak|apply au|apply ay|apply aA|apply aB)|(exact HK.out)|(right;simp;done)))⟩
  ·obtain rfl:i=l.length:=by omega
   rw[List.drop_length,dI]at hrr
   have HRR:=ah hrr;clear hrr
   go_wp2
   go_ret
   exact⟨by rw[HRR.out];rfl,HK.out⟩
end gX
end Go.Proofs.YtolkgbafebehfaaGreat

/- Part 21. -/
import Derived.Test.YtgbigpdiacjbgaaGreatKP19
set_option linter.unusedSimpArgs false
set_option linter.unusedVariables false
set_option maxHeartbeats 32000000
set_option maxRecDepth 100000
namespace Go.Proofs.YtgbigpdiacjbgaaGreat
open Go.RowKit
namespace eP
open bg Ops fG Vn
theorem FN(w:World)(b c:Nat)(hc:isNum c=true):
  Calls Tryz.prog 96 #[.pointer (some ⟨b,0,none⟩),.int .i32 c] w fun e w'=>e=.returned (.pointer (some ⟨b,numAt c,none⟩))/\w=w':=by
 have h:c=101\/c=115\/c=114\/c=110\/c=109\/c=112:=of_decide_eq_true hc;clear hc;rcases h with rfl|rfl|rfl|rfl|rfl|rfl
 all_goals
  go_enter Tryz.func96,Tryz.ntmps96
  go_wp2
  go_ret
  exact⟨rfl,rfl⟩
theorem fC(w:World)(b c:Nat)(hl:c∈letters)(hc:isNum c=false):
  Calls Tryz.prog 96 #[.pointer (some ⟨b,0,none⟩),.int .i32 c] w fun e w'=>e=.returned (.pointer none)/\w=w':=by
 have h:c=67\/c=97\/c=102\/c=108\/c=69\/c=83\/c=66\/c=120\/c=107\/c=116\/c=82:=by unfold letters at hl;simp only[List.mem_cons,List.not_mem_nil,or_false]at hl;have h2:¬(c=101\/c=115\/c=114\/c=110\/c=109\/c=112):=of_decide_eq_false hc;omega
 clear hc hl;rcases h with rfl|rfl|rfl|rfl|rfl|rfl|rfl|rfl|rfl|rfl|rfl
 all_goals
  go_enter Tryz.func96,Tryz.ntmps96
  go_wp2
  go_ret
  exact⟨rfl,rfl⟩
theorem D5(w:World)(k:Int)(h:isKind k=true):
  Calls Tryz.prog 59 #[.int .i64 k] w fun e w'=>e=.returned (.tuple #[.string (lets (partsOf k)),.bool true])/\Kept aj w w':=by
 have h0:1<=k/\k<=15:=of_decide_eq_true h;clear h;have h1:k=1\/k=2\/k=3\/k=4\/k=5\/k=6\/k=7\/k=8\/k=9\/k=10\/k=11\/k=12\/k=13\/k=14\/k=15:=by omega
 clear h0;rcases h1 with rfl|rfl|rfl|rfl|rfl|rfl|rfl|rfl|rfl|rfl|rfl|rfl|rfl|rfl|rfl
 all_goals
  go_enter Tryz.func59,Tryz.ntmps59
  go_wp2
  go_ret2
  exact⟨rfl,by(repeat'(first|(with_reducible first|exact ay|apply aA|apply aB|apply aC|apply aF)|(right;simp;done)))⟩
theorem KY(w:World)(k:Int)(h:isKind k=false):
  Calls Tryz.prog 59 #[.int .i64 k] w fun e w'=>e=.returned (.tuple #[.string emp,.bool false])/\Kept aj w w':=by
 have h0:¬(1<=k/\k<=15):=of_decide_eq_false h;clear h;by_cases h1:k<1
 ·go_enter Tryz.func59,Tryz.ntmps59;go_wp2;go_ret2;exact⟨rfl,by(repeat'(first|(with_reducible first|exact ay|apply aA|apply aB|apply aC|apply aF)|(right;simp;done)))⟩
 ·have h2:16<=k:=by omega
  clear h0;go_enter Tryz.func59,Tryz.ntmps59;go_wp2;go_ret2;exact⟨rfl,by(repeat'(first|(with_reducible first|exact ay|apply aA|apply aB|apply aC|apply aF)|(right;simp;done)))⟩
theorem FO(w:World)(s:ByteArray)(n:Int):Calls Tryz.prog 143 #[.string s,.int .i64 n] w fun e w'=>e=.returned (.int .i64 (if n<s.size then 3 else 0))/\w=w':=by
 by_cases h:n<s.size
 ·rw[if_pos h];go_enter Tryz.func143,Tryz.ntmps143;go_wp2;go_ret;exact⟨rfl,rfl⟩
 ·rw[if_neg h];go_enter Tryz.func143,Tryz.ntmps143;go_wp2;go_ret;exact⟨rfl,rfl⟩
theorem FP(w:World)(n m:Int):Calls Tryz.prog 144 #[.int .i64 n,.int .i64 m] w fun e w'=>e=.returned (.int .i64 (if m<n then 6 else 0))/\w=w':=by
 by_cases h:m<n
 ·rw[if_pos h];go_enter Tryz.func144,Tryz.ntmps144;go_wp2;go_ret;exact⟨rfl,rfl⟩
 ·rw[if_neg h];go_enter Tryz.func144,Tryz.ntmps144;go_wp2;go_ret;exact⟨rfl,rfl⟩
theorem KZ(w:World)(n:Int)(v:Value)(h:n≠0):Calls Tryz.prog 61 #[.int .i64 n,v] w fun e w'=>e=.returned (.int .i64 n)/\w=w':=by
 have h2:(n !=0)=true:=by simpa using h
 clear h;go_enter Tryz.func61,Tryz.ntmps61;go_wp2;go_ret;exact⟨rfl,rfl⟩
theorem O5(w:World)(g:Nat)(cap:Value)(r:Int)(eg:∀args w,(callFunc g args).run Tryz.prog w=.ok (.enter g args) w)
  (hf:Calls Tryz.prog g #[cap] w fun e w'=>e=.returned (.int .i64 r)/\Kept aj w w'):
  Calls Tryz.prog 61 #[.int .i64 0,.func (.func g) #[] #[cap]] w fun e w'=>e=.returned (.int .i64 r)/\Kept aj w w':=by
 have HF:=ah hf;clear hf;go_enter Tryz.func61,Tryz.ntmps61;go_wp2_with fail;refine HF.out.mono ?_;rintro e w2 ⟨rfl,hk⟩;have HK:=ah hk;clear hk;go_wp2;go_ret;exact⟨rfl,HK.out⟩
theorem Nk(w:World)(A:Option Addr)(c:Nat)(l:List iM)(hl:Src w 4 A l.length (kM l))(hlen:l.length<=1000000)(ho:∀y∈l,Src w 3 y.A y.ops.length (cells y.ops)):
  Calls Tryz.prog 146 #[.slice A l.length c] w fun e w'=>e=.returned (.int .i64 (bK (fun y=>Ops.chk (lZ y)) l))/\Kept aj w w':=by
 have HL:=ah hl;clear hl;have hcall:=fun W (hW:Kept aj w W) y (hy:y∈l)=>Mst.O1 W (lZ y) y.A y.c y.ts ((ho y hy).kept hW (fun _ _ z=>z));have GK:=ah hcall;clear hcall ho;obtain⟨r,hr⟩:∃r,bK (fun y=>Ops.chk (lZ y)) l=r:=⟨_,rfl⟩;rw[hr];have HR:=ah hr;clear hr;go_enter Tryz.func146,Tryz.ntmps146;go_wp2_with fail;go_loopw [8] (fun v8 wr=>∃i:Nat,i<=l.length/\v8=.int .i64 i/\r=bK (fun y=>Ops.chk (lZ y)) (l.drop i)/\Kept aj w wr) (fun v8 _=>l.length-(intOf v8).toNat)
 case atStart=>exact⟨0,Nat.zero_le _,rfl,HR.out.symm,Kept.refl _ _⟩
 case round=>
  obtain⟨i,hi,rfl,hrr,hk⟩:=hrel;have HK:=ah hk;clear hk;by_cases hil:i<l.length
  ·obtain⟨y,hy⟩:∃y,l[i]? =some y:=⟨_,lB0 hil⟩;obtain⟨ad,rfl,hl1,e0,e1,e2,e3⟩:=Dx (HL.out.kept HK.out (fun _ _ z=>z)) (by omega) i y hy;have hsa:=uG (fun y=>Ops.chk (lZ y)) hy;have hcall:=GK.out (wr.alloc (.cells #[.int .i64 y.cl,.int .i64 y.req,.slice y.A y.ops.length y.c,.int .u64 y.ts] 183)) (HK.out.alloc _) y (lC0 hy);rw[hsa]at hrr;obtain⟨t,ht⟩:∃t,Ops.chk (lZ y)=t:=⟨_,rfl⟩;rw[ht]at hcall hrr;dsimp only[lZ]at hcall;have HC:=ah hcall;have HRR:=ah hrr;clear hsa ht hy hcall hrr;go_wp2_with fail;refine HC.out.mono ?_;rintro e w5 ⟨rfl,hk0⟩;have dK:=ah ((HK.out.alloc _).then hk0);clear hk0;by_cases h0:t=0
   ·subst h0;have hrf:=HRR.out;rw[if_pos rfl]at hrf;have jl:=ah hrf;clear hrf HRR;go_wp2;go_roundw
    case rel=>exact⟨i+1,by omega,by go_num,jl.out,dK.out⟩
    case measure=>simp[intOf];omega
   ·have hrf:=HRR.out;rw[if_neg h0]at hrf;have jl:=ah hrf;clear hrf HRR;have h2:(t !=0)=true:=by simpa using h0
    clear h0;go_wp2;go_ret;exact⟨by rw[jl.out];rfl,dK.out⟩
  ·obtain rfl:i=l.length:=by omega
   rw[List.drop_length,bK]at hrr;have HRR:=ah hrr;clear hrr;go_wp2;go_ret;exact⟨by rw[HRR.out];rfl,HK.out⟩
theorem RQ(w:World)(A:Option Addr)(c:Nat)(l:List iC)(hl:Src w 2 A l.length (bI l))(hlen:l.length<=1000000):
  Calls Tryz.prog 148 #[.slice A l.length c] w fun e w'=>e=.returned (.int .i64 (bK mY l))/\Kept aj w w':=by
 have HL:=ah hl;clear hl;obtain⟨r,hr⟩:∃r,bK mY l=r:=⟨_,rfl⟩;rw[hr];have HR:=ah hr;clear hr;go_enter Tryz.func148,Tryz.ntmps148;go_wp2_with fail;go_loopw [9] (fun v9 wr=>∃i:Nat,i<=l.length/\v9=.int .i64 i/\r=bK mY (l.drop i)/\Kept aj w wr) (fun v9 _=>l.length-(intOf v9).toNat)
 case atStart=>exact⟨0,Nat.zero_le _,rfl,HR.out.symm,Kept.refl _ _⟩
 case round=>
  obtain⟨i,hi,rfl,hrr,hk⟩:=hrel;have HK:=ah hk;clear hk;by_cases hil:i<l.length
  ·obtain⟨y,hy⟩:∃y,l[i]? =some y:=⟨_,lB0 hil⟩;obtain⟨ad,rfl,hl1,e0,e1⟩:=pair_cells (HL.out.kept HK.out (fun _ _ z=>z)) (by omega) i y hy;have hsa:=uG mY hy;rw[hsa]at hrr;have hkc:=zl y.key;have hlo:=fun W=>FO W y.val 8;unfold mY at hrr;change∀w:World,Calls Tryz.prog 86 #[.string y.key] w fun e w'=>e=.returned (.int .i64 (keyE y.key))/\w=w' at hkc;obtain⟨t,ht⟩:∃t,keyE y.key=t:=⟨_,rfl⟩;rw[ht]at hkc hrr;obtain⟨u,hu⟩:∃u:Int,(if(8:Int)<(y.val.size:Int)then (3:Int)else 0)=u:=⟨_,rfl⟩;rw[hu]at hlo;have hu2:(if 8<y.val.size then (3:Int)else 0)=u:=by rw[<-hu];by_cases h8:8<y.val.size;rw[if_pos h8,if_pos (by omega)];rw[if_neg h8,if_neg (by omega)]
   rw[hu2]at hrr;have HC:=ah hkc;have HLO:=ah hlo;have HRR:=ah hrr;clear hsa ht hu hu2 hy hkc hlo hrr;go_wp2_with fail;refine(HC.out _).mono ?_;rintro e w5 ⟨rfl,rfl⟩;by_cases h0:t=0
   ·subst h0;have hrf:=HRR.out;rw[if_neg (show¬((0:Int)≠0)from fun h=>h rfl)]at hrf;have jl:=ah hrf;clear hrf HRR;go_wp2_with fail;refine(HLO.out _).mono ?_;rintro e w5 ⟨rfl,rfl⟩;by_cases h1:u=0
    ·subst h1;have hrf:=jl.out;rw[if_pos rfl]at hrf;have jl:=ah hrf;clear hrf;go_wp2;go_roundw
     case rel=>exact⟨i+1,by omega,by go_num,jl.out,by(repeat'(first|(with_reducible first|exact ay|apply aA|apply aB|apply aC|apply aF)|(exact HK.out)|(right;simp;done)))⟩
     case measure=>simp[intOf];omega
    ·have hrf:=jl.out;rw[if_neg h1]at hrf;have jl:=ah hrf;clear hrf;have h2:(u !=0)=true:=by simpa using h1
     clear h1;go_wp2;go_ret;exact⟨by rw[jl.out];rfl,by(repeat'(first|(with_reducible first|exact ay|apply aA|apply aB|apply aC|apply aF)|(exact HK.out)|(right;simp;done)))⟩
   ·have hrf:=HRR.out;rw[if_pos h0,if_neg h0]at hrf;have jl:=ah hrf;clear hrf HRR;have h2:(t !=0)=true:=by simpa using h0
    clear h0;go_wp2;go_ret;exact⟨by rw[jl.out];rfl,by(repeat'(first|(with_reducible first|exact ay|apply aA|apply aB|apply aC|apply aF)|(exact HK.out)|(right;simp;done)))⟩
  ·obtain rfl:i=l.length:=by omega
   rw[List.drop_length,bK]at hrr;have HRR:=ah hrr;clear hrr;go_wp2;go_ret;exact⟨by rw[HRR.out];rfl,HK.out⟩

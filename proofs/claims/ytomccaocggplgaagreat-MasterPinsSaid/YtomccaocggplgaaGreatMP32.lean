/- Part 33. -/
import Derived.Test.YtomccaocggplgaaGreatMP31
set_option linter.unusedSimpArgs false
set_option linter.unusedVariables false
set_option maxHeartbeats 32000000
set_option maxRecDepth 100000
namespace Go.Proofs.YtomccaocggplgaaGreat
open Go.RowKit
namespace bW
open aJ Vn Mst jQ IM kK gu
section
variable{w w':World}{X X0:MX}{M M0:MR}{c k:Nat}
theorem aaa(l:List Int)(x:Int):xY (l++[x])=xY l++[.int .u64 x]:=by unfold xY;rw[List.map_append];rfl
theorem SX{M:MR}{i:Nat}{m:Mem}(h:M.st.ms[i]? =some m):jM M (i+1)=jM M i++[(M.marks m.1).getD 0]:=by obtain⟨hi,he⟩:=lD0.1 h;unfold jM;rw[List.take_succ_eq_append_getElem hi,he,List.map_append];rfl
theorem V7{M:MR}{i:Nat}{m:Mem}(h:M.st.ms[i]? =some m):known M (i+1)=(known M i&&(M.marks m.1).isSome):=by obtain⟨hi,he⟩:=lD0.1 h;unfold known;rw[List.take_succ_eq_append_getElem hi,he,List.all_append];simp
theorem aab{M:MR}{i n:Nat}(hn:i<=n)(h:known M i=false):known M n=false:=by
 cases hk:known M n with
 |false=>rfl
 |true=>
  unfold known at h hk;rw[List.all_eq_true]at hk;rw[List.all_eq_false]at h;obtain⟨x,hx,h2⟩:=h;exact absurd (hk x ((List.take_subset_take_left _ hn) hx)) h2
theorem NF(M:MR)(i:Nat):(jM M i).length<=M.st.ms.length:=by rw[VY,List.length_take];omega
theorem V8(w:World)(old:Int)(A B:Option Addr)(c d:Nat)(l:List Int)(p:List aO)(hm:Src w 1 A l.length (xY l))(hlc:l.length<=c)(hlen:l.length<=1000)(hl:Src w 3 B p.length (aS p))(hll:p.length<=1000)(hold:0<=old/\old<=aW)(hmr:∀x∈l,0<=x/\x<=aW):
  Calls Tryz.prog 102 #[.int .u64 old,.slice A l.length c,.slice B p.length d] w fun e w'=>e=.returned (.int .u64 (dh.zU old l p))/\Kept aj w w':=by
 cases l with
 |nil=>
  refine(dh.aef w old A B c p.length d).mono ?_;rintro e w' ⟨rfl,rfl⟩;exact⟨rfl,Kept.refl _ _⟩
 |cons m r=>exact dh.aeg w old A B c d m r p hm hlc (by simp at hlen;omega) hl (by omega) hold hmr
attribute [local go_sem] zA
theorem QA(h:dJ w X M)(hb:dG X M.lg c)(hc:c<=4000)(hm:bC M k):
  Calls Tryz.prog 49 #[.pointer (some ⟨X.mb,0,none⟩)] w (dK w X M c (.tuple #[]) (eu M) 1):=by
 have hcell:∀W,Kept aj w W->W.cell? ⟨X.mb,2,none⟩=some (.pointer (some ⟨X.sb,0,none⟩))/\W.cell? ⟨X.mb,3,none⟩=some (.slice X.pA M.pins.length X.pc):=fun W hW=>⟨(h.quiet hW).cell (i:=2) rfl,(h.quiet hW).cell (i:=3) rfl⟩;have oP:=qO (h.c 2) hm.st.inv.ok;have zD:∀W,Kept aj w W->Calls Tryz.prog 24 #[.pointer (some ⟨X.sb,0,none⟩)] W fun e w'=>e=.returned (.int .u64 M.st.hz)/\Kept aj W w':=fun W hW=>yG ((h.quiet hW).c 2);have hok:=hm.st.inv.ok
 have hlook:∀W,Kept aj w W->∀id:Int,I64 id->W.cell? ⟨X.mb,5,none⟩=some (.map (some X.mm))/\(Instr.lookup 81 (.map (some X.mm)) (.int .i64 id) true).run Tryz.prog W=.ok (.tuple #[.int .u64 ((M.marks id).getD 0),.bool (M.marks id).isSome]) W:=fun W hW id hi=>
  ⟨(h.quiet hW).cell (i:=5) rfl,fD.look_ok ((h.quiet hW).c 5) Tryz.underlying81 Tryz.underlying23 rfl hi⟩
 have hag:∀W A c1,Kept aj w W->Src W 1 A (jM M M.st.ms.length).length (xY (jM M M.st.ms.length))->(jM M M.st.ms.length).length<=c1->Calls Tryz.prog 102 #[.int .u64 M.st.hz,.slice A (jM M M.st.ms.length).length c1,.slice X.pA M.pins.length X.pc] W fun e w'=>e=.returned (.int .u64 (nZ M))/\Kept aj W w':=fun W A c1 hW hs hl=>
  V8 W M.st.hz A X.pA c1 X.pc _ M.pins hs hl (by have:=NF M M.st.ms.length;have:=hok.m;omega) (Src.bF ((h.quiet hW).c 3)) (by have:=hm.p3;omega) hm.st.su.hz (NC hm _)
 have hni:=Fp hm;have hwr:∀W,Kept aj w W->Calls Tryz.prog 20 #[.pointer (some ⟨X.mb,0,none⟩),.agg (aK (eH (nZ M))).toArray] W fun e w'=>(∃z:Int,e=.returned (.int .i64 z))/\∃X',Step w X M w' X' (writeM M (eH (nZ M)))/\dG X' (writeM M (eH (nZ M))).lg (c+1):=fun W hW=>by refine(write_any (h.quiet hW) hb hc hok (eH (nZ M)) ⟨Src.nil _ _ _,Nat.le_refl _,Nat.zero_le _,Src.nil _ _ _,Nat.le_refl _,Nat.zero_le _,Src.nil _ _ _⟩ (Qr hni) ⟨fun h=>absurd h (Nat.lt_irrefl _),fun h=>absurd h (Nat.lt_irrefl _),fun h=>absurd h (Nat.lt_irrefl _)⟩).mono ?_;rintro e w' ⟨rfl,X',h1,h2⟩;exact⟨⟨_,rfl⟩,X',(Step.refl h hW).trans h1,h2⟩
 have hout:∀i,i<=M.st.ms.length->known M i=false->∀W,Kept aj w W->dK w X M c (.tuple #[]) (eu M) 1 (.returned (.tuple #[])) W:=fun i hi hk0 W hW=>by
  have e1:eu M=M:=by unfold eu;rw[aab hi hk0,if_neg (by decide)]
  rw[e1];exact⟨rfl,X,Step.refl h hW,hb.mono (Nat.le_succ _)⟩
 have hlow:known M M.st.ms.length=true->¬M.st.hz<nZ M->∀W,Kept aj w W->dK w X M c (.tuple #[]) (eu M) 1 (.returned (.tuple #[])) W:=fun hk0 hlt W hW=>by
  have e1:eu M=M:=by unfold eu;rw[if_pos hk0,if_neg hlt]
  rw[e1];exact⟨rfl,X,Step.refl h hW,hb.mono (Nat.le_succ _)⟩
 have hup:known M M.st.ms.length=true->M.st.hz<nZ M->eu M=writeM M (eH (nZ M)):=fun hk0 hlt=>by unfold eu;rw[if_pos hk0,if_pos hlt]
 have uX:=Z5 hm.st;have hml:=hok.m;have hms:∀i m,M.st.ms[i]? =some m->jM M (i+1)=jM M i++[(M.marks m.1).getD 0]/\known M (i+1)=(known M i&&(M.marks m.1).isSome):=fun i m h=>⟨SX h,V7 h⟩;have hle:=fun i=>NF M i;have hN0:known M 0=true:=by unfold known;simp
 have hM0:jM M 0=[]:=by unfold jM;simp
 obtain⟨H9,hH9⟩:∃H9,nZ M=H9:=⟨_,rfl⟩;obtain⟨hz,hhz⟩:∃hz,M.st.hz=hz:=⟨_,rfl⟩;simp only[hH9]at hag hwr hlow hup;simp only[hhz]at zD hag hlow hup;obtain⟨ep,mP⟩:∃ep,M.st.ep=ep:=⟨_,rfl⟩;obtain⟨fl,hfl⟩:∃fl,M.st.fl=fl:=⟨_,rfl⟩;obtain⟨ms,V9⟩:∃ms,M.st.ms=ms:=⟨_,rfl⟩;rw[mP,hfl,V9]at oP;rw[V9]at uX hml hlow hup;simp only[V9]at hag hout hms hle;obtain⟨M9,JY⟩:∃M9,eu M=M9:=⟨_,rfl⟩;rw[JY]at hout hlow hup⊢;simp only[eH,zn,aK,List.length_nil,jV]at hwr;have wX:=ah hcell;have Gi:=ah oP;have Wh:=ah zD;have ahh:=ah hlook;have HAG:=ah hag;have qU:=ah hwr;have wL:=ah hout;have ahY:=ah hlow;have Uc:=ah hup;have HMI:=ah uX;have HML:=ah hml;have HMS:=ah hms;have jw:=ah hle;have dW:=ah hN0;have LX:=ah hM0;obtain⟨z2,z3⟩:=hcell w (Kept.refl _ _);clear hcell oP zD hok hlook hag hni hwr hout hlow hup uX hml hms hle hN0 hM0 hH9 hhz mP hfl V9 JY h hb hc hm;go_enter Tryz.func49,Tryz.ntmps49;go_wp2_with fail;clear z2 z3;refine Gi.out.mono ?_;rintro e w1 ⟨A0,c0,rfl,hr0,hk1⟩;have HR0:=ah hr0;have gB:=ah hk1;clear hr0 hk1;go_wp2_with fail;go_loopw [2,5,6,15] (fun v2 v5 v6 v15 wr=>∃(i:Nat) (A:Option Addr) (c:Nat),i<=ms.length/\v15=.int .i64 i/\v2=.slice A (jM M i).length c/\aF 23 1 w1.heap.size wr A (jM M i).length c (xY (jM M i))/\known M i=true/\Kept aj w1 wr) (fun _ _ _ v15 _=>ms.length-(intOf v15).toNat)
 case atStart=>exact⟨0,none,0,Nat.zero_le _,rfl,by rw[LX.out];rfl,by rw[LX.out];exact aF.nil _ _ _ _,dW.out,Kept.refl _ _⟩
 case round=>
  obtain⟨i,A,c1,hi,rfl,rfl,hr,hkn,hk⟩:=hrel;have HKN:=ah hkn;have HK:=ah hk;have HR:=ah hr;clear hkn hk hr;by_cases hil:i<ms.length
  ·obtain⟨m,hm⟩:∃m,ms[i]? =some m:=⟨_,lB0 hil⟩;obtain⟨hs1,hs2⟩:=HMS.out i m hm;have uX:=HMI.out m (lC0 hm);obtain⟨ad,rfl,had,d0,d1⟩:=jr ((Src.bF HR0.out.1).kept HK.out (fun _ _ x=>x)) (by omega) i m hm;have hlk:∀W,Kept aj w1 W->W.cell? ⟨X.mb,5,none⟩=some (.map (some X.mm))/\(Instr.lookup 81 (.map (some X.mm)) (.int .i64 m.1) true).run Tryz.prog W=.ok (.tuple #[.int .u64 ((M.marks m.1).getD 0),.bool (M.marks m.1).isSome]) W:=fun W hW=>ahh.out W (gB.out.then hW) m.1 uX;have hle:=jw.out i;have hml:=HML.out;obtain⟨v,hv⟩:∃v,(M.marks m.1).getD 0=v:=⟨_,rfl⟩;obtain⟨b,hb⟩:∃b,(M.marks m.1).isSome=b:=⟨_,rfl⟩;rw[hv]at hs1;rw[HKN.out,hb,Bool.true_and]at hs2;simp only[hv,hb]at hlk;obtain⟨L,hL⟩:∃L,jM M i=L:=⟨_,rfl⟩;rw[hL]at hs1 hle HR⊢;have EY:=ah hs1;have HS2:=ah hs2;have HLK:=ah hlk;have JI:Hid (L.length+1<=maxLen):=ah (by unfold maxLen;omega);have zM:Hid ((L.length+1)*8<=140737488355328):=ah (by omega);obtain⟨W1,hW1⟩:∃W1,wr.alloc (.cells #[.int .i64 m.1,.int .i64 m.2] 56)=W1:=⟨_,rfl⟩;have hkw:Kept aj wr W1:=by rw[<-hW1];(repeat'(first|(with_reducible first|exact ak|apply au|apply ay|apply aA|apply aB)|(right;simp;done)))
   have hnb:Has W1 wr.heap.size 56 #[.int .i64 m.1,.int .i64 m.2]:=by rw[<-hW1];exact Has.new _ _ _
   have q0:W1.cell? ⟨wr.heap.size,0,none⟩=some (.int .i64 m.1):=hnb.cell 0;have q5:=(hlk W1 (HK.out.then hkw)).1;have l5:∀n,_:=fun n=>(hlk (W1.drewN n) (HK.out.then (hkw.drewN n))).2;have oq:=ah hkw;obtain⟨m1,m2⟩:=m;dsimp only at d0 d1 hW1 q0 l5;clear hs1 hs2 hlk hv hb hL hm uX hkw hnb;cases b
   ·go_wp2_with fail;go_quiet (fail);go_wp2;refine bodyPost_ret (v:=.tuple #[]) (by simp[results,Tryz.results49,go_sem]) rfl ?_;exact wL.out (i+1) (by omega) HS2.out _ (by(repeat'(first|(with_reducible first|exact ak|apply au|apply ay|apply aA|apply aB)|(exact gB.out.then (HK.out.then oq.out))|(right;simp;done))))
   ·go_wp2_with fail;go_quiet (fail);go_wp2_with (at_builtin;refine aN dh.TD (.tmp 31) (.tmp 33) rfl rfl (Value.slice A L.length c1) rfl (aC HR.out.1 (F:=aj) (by(repeat'(first|(with_reducible first|exact ak|apply au|apply ay|apply aA|apply aB)|(exact oq.out)|(right;simp;done)))) (fun _ _ x=>x)) 1 rfl (Src.dA (t:=23) (size:=1) (m:=1) (cs:=#[.int .u64 v]) (by(repeat (with_reducible first|exact Has.bK _ _ _ (by simp)|apply Has.drew|apply Has.drewN|apply Has.alloc|(apply Has.past<;>(try omega))))) rfl) (by simp[Value.oneCell']) JI.out zM.out ?_;intro A1 c9 w9 ho1 hg1 ha1;have hpush:=aF.pushed HR.out (by(repeat'(first|(with_reducible first|exact ak|apply au|apply ay|apply aA|apply aB)|(exact HK.out.then oq.out)|(right;simp;done)))) ho1 hg1 ha1;have HP:=ah hpush;clear ho1 hg1 ha1 hpush);go_roundw
    case rel=>exact⟨i+1,A1,c9,by omega,by go_num,by rw[EY.out,lA0];rfl,by rw[EY.out,lA0,aaa];exact HP.out.1,HS2.out,HP.out.2⟩
    case measure=>simp[intOf];omega
  ·obtain rfl:i=ms.length:=by omega
   obtain⟨z2,z3⟩:=wX.out wr (gB.out.then HK.out);have ahZ:=ah (aF.kept (w':=wr) HR.out (Kept.refl _ _));obtain⟨LL,hLL⟩:∃LL,jM M ms.length=LL:=⟨_,rfl⟩;have hag:=fun W (hW:Kept aj w W)=>HAG.out W A c1 hW;simp only[hLL]at hag;rw[hLL]at HR⊢;have ah0:=ah hag;clear hag hLL ahZ;go_wp2_with fail
   go_region_held3 (fun W=>W.cell? ⟨X.mb,2,none⟩=some (.pointer (some ⟨X.sb,0,none⟩))/\W.cell? ⟨X.mb,3,none⟩=some (.slice X.pA M.pins.length X.pc))
    (first|with_reducible exact y4|with_reducible exact y3|with_reducible exact⟨z2,z3⟩|(simp[go_sem,z2,z3];done))
    (first
     |(go_at_call 24;refine(Wh.out _ (by(repeat'(first|(with_reducible first|exact ak|apply au|apply ay|apply aA|apply aB)|(exact gB.out.then HK.out)|(right;simp;done))))).mono ?_;rintro e w3 ⟨rfl,hk3⟩;have hk:=Kept.then (F:=aj) (a:=wr) (by(repeat'(first|(with_reducible first|exact ak|apply au|apply ay|apply aA|apply aB)|(right;simp;done)))) hk3;have y3:=wX.out _ (gB.out.then (HK.out.then hk));have bu:=ah hk;clear hk hk3)
     |(go_at_call 102;refine(ah0.out _ (by(repeat'(first|(with_reducible first|exact ak|apply au|apply ay|apply aA|apply aB)|(exact gB.out.then (HK.out.then bu.out))|(right;simp;done)))) (Src.bF (aC HR.out.1 (F:=aj) (by(repeat'(first|(with_reducible first|exact ak|apply au|apply ay|apply aA|apply aB)|(exact bu.out)|(right;simp;done)))) (fun _ _ z=>z))) (gJ HR.out.1).1).mono ?_;rintro e w4 ⟨rfl,hk4⟩;have hk:=Kept.then (F:=aj) (a:=wr) (by(repeat'(first|(with_reducible first|exact ak|apply au|apply ay|apply aA|apply aB)|(exact bu.out)|(right;simp;done)))) hk4;have y4:=wX.out _ (gB.out.then (HK.out.then hk));have eY:=ah hk;clear hk hk4))
   clear y3 z2 z3;obtain⟨z2,z3⟩:=y4;go_wp2_with fail;refine(Wh.out _ (by(repeat'(first|(with_reducible first|exact ak|apply au|apply ay|apply aA|apply aB)|(exact gB.out.then (HK.out.then eY.out))|(right;simp;done))))).mono ?_;rintro e w5 ⟨rfl,hk5⟩;have dB:=ah (Kept.then (F:=aj) (a:=w) (by(repeat'(first|(with_reducible first|exact ak|apply au|apply ay|apply aA|apply aB)|(exact gB.out.then (HK.out.then eY.out))|(right;simp;done)))) hk5);clear hk5 z2 z3;by_cases hlt:hz<H9
   ·have HU:=ah (Uc.out HKN.out hlt);have hw:=qU.out w5 dB.out;have HW:=ah hw;clear hw;go_wp2_with fail;refine HW.out.mono ?_;rintro e w6 ⟨⟨z,rfl⟩,X',hs,hl⟩;have HQ:=ah (show dK w X M c (.tuple #[]) M9 1 (.returned (.tuple #[])) w6 from by rw[HU.out];exact⟨rfl,X',hs,hl⟩);clear hs hl;go_wp2;go_end0;exact HQ.out
   ·have HQ:=ah (ahY.out HKN.out (by omega) w5 dB.out);go_wp2_with fail;go_end0;exact HQ.out
end
end bW
namespace bW
open aJ Vn Mst jQ IM kK gu
section
variable{w w':World}{X X0:MX}{M M0:MR}{c k:Nat}
theorem Step.row{e:TypeId}{size n:Nat}{v:Value}{xs:List Value}(h:Step w X M w' X0 M0)(hr:w.ownsRow 0 e size v n xs)(hn:∀q,v.ownBlock=some q->¬dN X M q):w'.ownsRow 0 e size v n xs/\(∀q,v.ownBlock=some q->¬dN X0 M0 q):=
 ⟨aC hr h.k hn,fun q hq hf=>by
  rcases h.g q hf with y|y
  ·exact hn q hq y
  ·have:=mD hr hq;omega⟩
theorem acV(h:dJ w X M)(hb:dG X M.lg c)(ho:M.out.length<=1000)(hok:pY M.st)(hu:SU M.st)(b:Nat)(hbx:Has w b 31 #[.pointer (some ⟨X.mb,0,none⟩)])(m:Mem):
  Calls Tryz.prog 50 #[jH m,.pointer (some ⟨b,0,none⟩)] w (dK w X M c (.tuple #[]) (jW M m.1) 0):=by
 obtain⟨m1,m2⟩:=m;obtain⟨W0,hW0⟩:∃W0,w.alloc (.cells #[.int .i64 m1,.int .i64 m2] 56)=W0:=⟨_,rfl⟩;have hk0:Kept aj w W0:=by rw[<-hW0];(repeat'(first|(with_reducible first|exact ak|apply au|apply ay|apply aA|apply aB)|(right;simp;done)))
 have hn0:Has W0 w.heap.size 56 #[.int .i64 m1,.int .i64 m2]:=by rw[<-hW0];exact Has.new _ _ _
 have q0:W0.cell? ⟨w.heap.size,0,none⟩=some (.int .i64 m1):=hn0.cell 0;have q1:W0.cell? ⟨b,0,none⟩=some (.pointer (some ⟨X.mb,0,none⟩)):=(hbx.kept hk0 (fun z=>z)).cell 0;have hw:=EZ (h.quiet hk0) hb ho hok hu m1;have hfin:∀e W,dK W0 X M c (.tuple #[]) (jW M m1) 0 e W->dK w X M c (.tuple #[]) (jW M m1) 0 e W:=fun e W hp=>by obtain⟨h1,X',h2,h3⟩:=hp;exact⟨h1,X',(Step.refl h hk0).trans h2,h3⟩
 have HW:=ah hw;have HF:=ah hfin;clear hw hfin hk0 hn0 h hb ho hok hu hbx;obtain⟨M',hM'⟩:∃M',jW M m1=M':=⟨_,rfl⟩;simp only[hM']at HW HF⊢;clear hM';go_enter Tryz.func50,Tryz.ntmps50;go_wp2_with fail;clear hW0 q0 q1;refine HW.out.mono ?_;rintro e w2 ⟨rfl,X',h1,h2⟩;have hq:=HF.out _ _ ⟨rfl,X',h1,h2⟩;have HQ:=ah hq;clear hq h1 h2;go_wp2;go_end0;exact HQ.out
structure Tk(w:World)(X:MX)(M:MR)(c:Nat)(b:Nat)(p:Value)(e:TypeId)(size n:Nat)(v:Value)(xs:List Value)(W:World)(X1:MX)(M1:MR):Prop where
 s:Step w X M W X1 M1
 lb:dG X1 M1.lg c
 hb:Has W b 31 #[p]
 ob:¬dN X1 M1 b
 hr:W.ownsRow 0 e size v n xs
 hn:∀q,v.ownBlock=some q->¬dN X1 M1 q
section
variable{W W':World}{X1 X2:MX}{M1 M2:MR}{b:Nat}{p:Value}{e:TypeId}{size n:Nat}{v:Value}{xs:List Value}
theorem Tk.quiet(h:Tk w X M c b p e size n v xs W X1 M1)(hk:Kept aj W W'):Tk w X M c b p e size n v xs W' X1 M1:=⟨h.s.quiet hk,h.lb,h.hb.kept hk (fun z=>z),h.ob,aC h.hr hk (fun _ _ z=>z),h.hn⟩
theorem Tk.step(h:Tk w X M c b p e size n v xs W X1 M1)(hs:Step W X1 M1 W' X2 M2){c2:Nat}(hl:dG X2 M2.lg c2):Tk w X M c2 b p e size n v xs W' X2 M2:=by have a1:=hs.has h.hb h.ob;have a2:=hs.row h.hr h.hn;exact⟨h.s.trans hs,hl,a1.1,a1.2,a2.1,a2.2⟩
end
attribute [local go_sem] zA
theorem QB(h:dJ w X M)(hb:dG X M.lg c)(hc:c<=2900)(hm:bC M k)(hk:k<=1000)(ho:M.out.length<=90):
  Calls Tryz.prog 15 #[.pointer (some ⟨X.mb,0,none⟩)] w (nV w X M (c+6) (qW M).out (lU M)):=by
 obtain⟨W0,hW0⟩:∃W0,w.alloc (.cells #[.pointer (some ⟨X.mb,0,none⟩)] 31)=W0:=⟨_,rfl⟩;have hk0:Kept aj w W0:=by rw[<-hW0];(repeat'(first|(with_reducible first|exact ak|apply au|apply ay|apply aA|apply aB)|(right;simp;done)))
 have hn0:Has W0 w.heap.size 31 #[.pointer (some ⟨X.mb,0,none⟩)]:=by rw[<-hW0];exact Has.new _ _ _
 have G5:∀q,dN X M q->q<w.heap.size:=fun q hq=>h.lt hq;have hb0:¬dN X M w.heap.size:=fun hf=>Nat.lt_irrefl _ (G5 _ hf);have hnone:=qh (h.quiet hk0);have htk:=dh.XW W0 X.pA X.pc M.pins (Src.bF ((h.quiet hk0).c 3)) (by have:=hm.p3;omega) (fun p hp=>by have:=hm.pin p hp;omega);have q3:W0.cell? ⟨X.mb,3,none⟩=some (.slice X.pA M.pins.length X.pc):=(h.quiet hk0).cell (i:=3) rfl;have hg3:(dh.iy M.pins).length<=3:=Nat.le_trans (dh.Hu _) hm.p3;obtain⟨bx,hbx⟩:∃bx,w.heap.size=bx:=⟨_,rfl⟩;rw[hbx]at hn0 hb0;have q1:W0.cell? ⟨bx,0,none⟩=some (.pointer (some ⟨X.mb,0,none⟩)):=hn0.cell 0
 have hfx:∀W (A:Option Addr) (c1:Nat),Kept aj W0 W->W.cell? ⟨bx,0,none⟩=some (.pointer (some ⟨X.mb,0,none⟩))/\W.cell? ⟨X.mb,3,none⟩=some (.slice X.pA M.pins.length X.pc)/\W.frozen? ⟨X.mb,3,none⟩=false:=fun W A c1 hW=>
  ⟨(hn0.kept hW (fun z=>z)).cell 0,(h.quiet (hk0.then hW)).cell (i:=3) rfl,Has.frozen ((h.quiet (hk0.then hW)).c 0) 3⟩
 have hset:∀W A c1,Kept aj W0 W->aF 53 3 W0.heap.size W A (dh.dI M.pins).length c1 (aS (dh.dI M.pins))->∀e size n v xs,e≠53->W.ownsRow 0 e size v n xs->(∀q,v.ownBlock=some q->W0.heap.size<=q)->
   ∃X1,X1.mb=X.mb/\Tk w X M c bx (.pointer (some ⟨X.mb,0,none⟩)) e size n v xs (W.setCell ⟨X.mb,3,none⟩ (.slice A (dh.dI M.pins).length c1)) X1 (ny M):=fun W A c1 hW hn e size n v xs hne hr hq=>by
  have h1:=hk0.size
  have hs:=Step.BZ (Step.refl h (hk0.then hW)) hn.1 (fun k hk=>by have h2:=hn.2 k hk;exact⟨by omega,fun hf=>by have:=G5 _ hf;omega⟩)
  have hkk:Kept (dN X M) W (W.setCell ⟨X.mb,3,none⟩ (.slice A (dh.dI M.pins).length c1)):=(Kept.refl _ W).put (.inl ⟨0,rfl⟩);refine⟨{X with pA:=A,pc:=c1},rfl,⟨hs,⟨hb.n,hb.f,hb.l,hb.hd⟩,(hn0.kept hW (fun z=>z)).kept hkk hb0,fun hf=> ?_,aC hr hkk (fun g hg hf=> ?_),fun q hq2 hf=> ?_⟩⟩
  ·obtain⟨i,hi⟩:=hf;by_cases h3:i=3
   ·subst h3;have h4:=hn.2 bx hi;have h5:=hn0.lt;omega
   ·have hfb:dN X M bx:=⟨i,by rcases i with _|_|_|_|_|_|_|_|_|_|_|i<;>first|exact hi|exact absurd rfl h3⟩;exact hb0 hfb
  ·have:=hq g hg;have:=G5 g hf;omega
  ·have h6:=hq q hq2;obtain⟨i,hi⟩:=hf;by_cases h3:i=3
   ·subst h3;have h7:(Value.slice A (dh.dI M.pins).length c1).ownBlock=some q:=hi;exact absurd hq2 (dh.rows_apart hn.1 hr hne q h7)
   ·have hfb:dN X M q:=⟨i,by rcases i with _|_|_|_|_|_|_|_|_|_|_|i<;>first|exact hi|exact absurd rfl h3⟩;have:=G5 q hfb;omega
 have FY:∀n,bC (iZ (ny M) n) k:=fun n=>(hm.ny).iZ n
 have hwr:∀W X1 i (g:Int) e size n v xs,i<=3->Tk w X M (c+i) bx (.pointer (some ⟨X.mb,0,none⟩)) e size n v xs W X1 (iZ (ny M) ((dh.iy M.pins).take i))->(dh.iy M.pins)[i]? =some g->
   Calls Tryz.prog 20 #[.pointer (some ⟨X.mb,0,none⟩),.agg (aK (dP g)).toArray] W fun e0 W'=>(∃z:Int,e0=.returned (.int .i64 z))/\∃X2,Tk w X M (c+(i+1)) bx (.pointer (some ⟨X.mb,0,none⟩)) e size n v xs W' X2 (iZ (ny M) ((dh.iy M.pins).take (i+1))):=fun W X1 i g e size n v xs hi ht hg=>by
  have e1:(dh.iy M.pins).take (i+1)=(dh.iy M.pins).take i++[g]:=aJ.take_snoc hg;rw[e1,SV];have hw:=write_any ht.s.at' ht.lb (by omega) (FY _).st.inv.ok (dP g) (Jd _ _ _ _ _ _) (qC _ _ _ (by decide) (by decide)) (JH _ _);rw[ht.s.mb]at hw;refine hw.mono ?_;rintro e0 W' ⟨rfl,X2,h1,h2⟩;exact⟨⟨_,rfl⟩,X2,ht.step h1 h2⟩
 have acW:∀W X1 e size n v xs,Tk w X M (c+(dh.iy M.pins).length) bx (.pointer (some ⟨X.mb,0,none⟩)) e size n v xs W X1 (kD M)->∃wb,W.cell? ⟨X.mb,4,none⟩=some (.pointer (some ⟨wb,0,none⟩))/\Calls Tryz.prog 47 #[.pointer (some ⟨wb,0,none⟩)] W fun e0 W'=>(∃z:Int,e0=.returned (.int .i64 z))/\∃X2,Tk w X M (c+3) bx (.pointer (some ⟨X.mb,0,none⟩)) e size n v xs W' X2 (bG M):=fun W X1 e size n v xs ht=>by refine⟨X1.wb,by have:=ht.s.at'.cell (i:=4) (v:=.pointer (some ⟨X1.wb,0,none⟩)) rfl;rw[ht.s.mb]at this;exact this,?_⟩;refine(XF (ht.s.at'.c 4) (hm.kD).tq).mono ?_;rintro e0 W' ⟨rfl,h1,h2⟩;refine⟨⟨_,rfl⟩,X1,ht.step (dJ.PX ht.s.at' h1 h2) ?_⟩;exact dG.mono ht.lb (by omega)
 have hnext:∀W X1 e size n v xs,Tk w X M (c+3) bx (.pointer (some ⟨X.mb,0,none⟩)) e size n v xs W X1 (bG M)->Calls Tryz.prog 48 #[.pointer (some ⟨X.mb,0,none⟩)] W fun e0 W'=>e0=.returned (.tuple #[])/\∃X2,Tk w X M (c+4) bx (.pointer (some ⟨X.mb,0,none⟩)) e size n v xs W' X2 (fF (bG M)):=fun W X1 e size n v xs ht=>by have hn:=Z8 ht.s.at' ht.lb (by omega) hm.bG hk;rw[ht.s.mb]at hn;refine hn.mono ?_;rintro e0 W' ⟨rfl,X2,h1,h2⟩;exact⟨rfl,X2,ht.step h1 h2⟩
 have zD:∀W X1 e size n v xs,Tk w X M (c+4) bx (.pointer (some ⟨X.mb,0,none⟩)) e size n v xs W X1 (fF (bG M))->Calls Tryz.prog 49 #[.pointer (some ⟨X.mb,0,none⟩)] W fun e0 W'=>e0=.returned (.tuple #[])/\∃X2,Tk w X M (c+5) bx (.pointer (some ⟨X.mb,0,none⟩)) e size n v xs W' X2 (fQ M):=fun W X1 e size n v xs ht=>by have hn:=QA ht.s.at' ht.lb (by omega) (hm.bG).fF;rw[ht.s.mb]at hn;refine hn.mono ?_;rintro e0 W' ⟨rfl,X2,h1,h2⟩;exact⟨rfl,X2,ht.step h1 h2⟩
 have h3:=hm.fQ;have Wi:(fQ M).st.ms.length<=4:=by
  rcases h3.st.inv.conf with q|q
  ·rw[q.2.1];decide
  ·exact(jf q.1).2.2.1
 have oP:∀W X1 e size n v xs,Tk w X M (c+5) bx (.pointer (some ⟨X.mb,0,none⟩)) e size n v xs W X1 (fQ M)->∃sb,W.cell? ⟨X.mb,2,none⟩=some (.pointer (some ⟨sb,0,none⟩))/\Calls Tryz.prog 34 #[.pointer (some ⟨sb,0,none⟩)] W fun e0 W'=>∃A c1,e0=.returned (nC (fQ M).st.ep A (fQ M).st.ms.length c1 (fQ M).st.fl)/\Tk w X M (c+5) bx (.pointer (some ⟨X.mb,0,none⟩)) 56 2 (fQ M).st.ms.length (.slice A (fQ M).st.ms.length c1) (aU (fQ M).st.ms) W' X1 (gq (fQ M) ((fQ M).st.ms.take 0)):=fun W X1 e size n v xs ht=>by refine⟨X1.sb,by have:=ht.s.at'.cell (i:=2) (v:=.pointer (some ⟨X1.sb,0,none⟩)) rfl;rw[ht.s.mb]at this;exact this,?_⟩;refine(qO (ht.s.at'.c 2) h3.st.inv.ok).mono ?_;rintro e0 W' ⟨A,c1,rfl,h1,h2⟩;have hq:=ht.quiet h2;exact⟨A,c1,rfl,hq.s,hq.lb,hq.hb,hq.ob,h1.1,fun q hq2 hf=>by have a1:=h1.2 q hq2;have a2:=ht.s.at'.lt hf;omega⟩
 have N7:∀W X1 (i:Nat) (m:Mem) e size n v xs,Tk w X M (c+5) bx (.pointer (some ⟨X.mb,0,none⟩)) e size n v xs W X1 (gq (fQ M) ((fQ M).st.ms.take i))->(fQ M).st.ms[i]? =some m->
   Calls Tryz.prog 50 #[jH m,.pointer (some ⟨bx,0,none⟩)] W fun e0 W'=>e0=.returned (.tuple #[])/\∃X2,Tk w X M (c+5) bx (.pointer (some ⟨X.mb,0,none⟩)) e size n v xs W' X2 (gq (fQ M) ((fQ M).st.ms.take (i+1))):=fun W X1 i m e size n v xs ht hg=>by
  have e1:(fQ M).st.ms.take (i+1)=(fQ M).st.ms.take i++[m]:=aJ.take_snoc hg;rw[e1,V2];have hl:=ZS (fQ M) ((fQ M).st.ms.take i);rw[ZT,List.length_take]at hl;have h4:=h3.gq ((fQ M).st.ms.take i);have hbx:=ht.hb;rw[<-ht.s.mb]at hbx;refine(acV ht.s.at' ht.lb (by omega) h4.st.inv.ok h4.st.su bx hbx m).mono ?_;rintro e0 W' ⟨rfl,X2,h1,h2⟩;exact⟨rfl,X2,ht.step h1 h2⟩
 have hdone:∀W X1 e size n v xs,Tk w X M (c+5) bx (.pointer (some ⟨X.mb,0,none⟩)) e size n v xs W X1 (qW M)->Calls Tryz.prog 22 #[.pointer (some ⟨X.mb,0,none⟩)] W (nV w X M (c+6) (qW M).out (lU M)):=fun W X1 e size n v xs ht=>
  Qu hm (by omega) ht.s ht.lb (by omega) hm.qW
 obtain⟨G,hG⟩:∃G,dh.iy M.pins=G:=⟨_,rfl⟩;obtain⟨P,hP⟩:∃P,dh.dI M.pins=P:=⟨_,rfl⟩;have ht1:iZ (ny M) (G.take G.length)=kD M:=by rw[List.take_length,<-hG];rfl
 have JX:gq (fQ M) ((fQ M).st.ms.take (fQ M).st.ms.length)=qW M:=by rw[List.take_length];rfl
 obtain⟨M3,G6⟩:∃M3,fQ M=M3:=⟨_,rfl⟩;obtain⟨M4,hM4⟩:∃M4,qW M=M4:=⟨_,rfl⟩;obtain⟨o,hO⟩:∃o,M4.out=o:=⟨_,rfl⟩;obtain⟨M9,JY⟩:∃M9,lU M=M9:=⟨_,rfl⟩;obtain⟨M2,hM2⟩:∃M2,bG M=M2:=⟨_,rfl⟩;obtain⟨M1,hM1⟩:∃M1,kD M=M1:=⟨_,rfl⟩;obtain⟨M0,hM0⟩:∃M0,ny M=M0:=⟨_,rfl⟩;rw[hM4,hO,JY];unfold dh.Hw at htk;rw[hP,hG]at htk;rw[hG]at hg3;rw[hM1,hM0]at ht1;rw[G6,hM4]at JX;rw[G6]at Wi;simp only[hP,hM0]at hset;simp only[hG,hM0]at hwr;simp only[hG,hM1,hM2]at acW;simp only[hM2]at hnext zD;simp only[G6]at zD oP N7;simp only[hM4,hO,JY]at hdone;obtain⟨ms,hms⟩:∃ms,M3.st.ms=ms:=⟨_,rfl⟩;rw[hms]at JX Wi;simp only[hms]at oP N7;simp only[dP,nt,aK,List.length_nil,jV]at hwr;have JZ:=ah hnone;have HTK:=ah htk;have HFX:=ah hfx;have ah1:=ah hset;have qU:=ah hwr;have ah2:=ah acW;have ahi:=ah hnext;have Wh:=ah zD;have Gi:=ah oP;have ahj:=ah N7;have ahk:=ah hdone;have HT1:=ah ht1;have HT4:=ah JX;have HG3:=ah hg3;have zo:=ah Wi;clear hk0 hn0 G5 hb0 hnone htk hfx hset FY hwr acW hnext zD h3 oP N7 hdone hG hP ht1 JX G6 hM4 hO JY hM2 hM1 hM0 hms Wi hg3 h hb hc hm hk ho;go_enter Tryz.func15,Tryz.ntmps15;go_wp2_with fail;clear hW0 hbx;refine JZ.out.mono ?_;rintro e w1 ⟨rfl,rfl⟩;go_wp2_with fail;refine HTK.out.mono ?_;rintro e w2 ⟨A,c1,B,d,rfl,hn1,hn2,hk2⟩;clear q1 q3;obtain⟨q1,q3,f3⟩:=HFX.out w2 none 0 hk2;obtain⟨X1,hX1,ht⟩:=ah1.out w2 A c1 hk2 hn1 3 1 G.length (.slice B G.length d) (ints G) (by decide) hn2.1 hn2.2;obtain⟨W3,hW3⟩:∃W3,w2.setCell ⟨X.mb,3,none⟩ (.slice A P.length c1)=W3:=⟨_,rfl⟩;rw[hW3]at ht;have HT:=ah ht;clear ht hn1 hn2 hk2;go_wp2_with fail;clear q1 q3 f3 hW3;go_loopw [6,26] (fun v6 v26 wr=>∃(i:Nat) (X2:MX),i<=G.length/\v26=.int .i64 i/\Tk w X M (c+i) bx (.pointer (some ⟨X.mb,0,none⟩)) 3 1 G.length (.slice B G.length d) (ints G) wr X2 (iZ M0 (G.take i))) (fun _ v26 _=>G.length-(intOf v26).toNat)
 case atStart=>exact⟨0,X1,Nat.zero_le _,rfl,HT.out⟩
 case round=>
  obtain⟨i,X2,hi,rfl,ht⟩:=hrel;have hg3:G.length<=3:=HG3.out;by_cases hil:i<G.length
  ·obtain⟨g,hg⟩:∃g,G[i]? =some g:=⟨_,lB0 hil⟩;obtain⟨ad,rfl,had,d0⟩:=qZ (Src.bF ht.hr) (by omega) i g hg;have hw:=qU.out wr X2 i g _ _ _ _ _ (by have:=HG3.out;omega) ht hg;have q1:wr.cell? ⟨bx,0,none⟩=some (.pointer (some ⟨X.mb,0,none⟩)):=ht.hb.cell 0;have HW:=ah hw;clear hw ht hg;go_wp2_with fail;clear d0 q1;refine HW.out.mono ?_;rintro e w4 ⟨⟨z,rfl⟩,X3,ht3⟩;have HT3:=ah ht3;clear ht3;go_wp2_with fail;go_roundw
   case rel=>exact⟨i+1,X3,by omega,by go_num,HT3.out⟩
   case measure=>simp[intOf];omega
  ·obtain rfl:i=G.length:=by omega
   rw[HT1.out]at ht;obtain⟨wb,q4,hwt⟩:=ah2.out wr X2 _ _ _ _ _ ht;have q1:wr.cell? ⟨bx,0,none⟩=some (.pointer (some ⟨X.mb,0,none⟩)):=ht.hb.cell 0;have HWT:=ah hwt;clear hwt ht;go_wp2_with fail;clear q1 q4;refine HWT.out.mono ?_;rintro e w4 ⟨⟨z,rfl⟩,X3,ht3⟩;have q1:w4.cell? ⟨bx,0,none⟩=some (.pointer (some ⟨X.mb,0,none⟩)):=ht3.hb.cell 0;have HN:=ah (ahi.out _ _ _ _ _ _ _ ht3);clear ht3;go_wp2_with fail;clear q1;refine HN.out.mono ?_;rintro e w5 ⟨rfl,X4,JX⟩;have q1:w5.cell? ⟨bx,0,none⟩=some (.pointer (some ⟨X.mb,0,none⟩)):=JX.hb.cell 0;have HH:=ah (Wh.out _ _ _ _ _ _ _ JX);clear JX;go_wp2_with fail;clear q1;refine HH.out.mono ?_;rintro e w6 ⟨rfl,X5,ND⟩;have q1:w6.cell? ⟨bx,0,none⟩=some (.pointer (some ⟨X.mb,0,none⟩)):=ND.hb.cell 0;obtain⟨sb,q2,hcf⟩:=Gi.out _ _ _ _ _ _ _ ND;have Cb:=ah hcf;clear hcf ND;go_wp2_with fail;clear q1 q2;refine Cb.out.mono ?_;rintro e w7 ⟨A7,c7,rfl,ht7⟩;have HT7:=ah ht7;clear ht7;go_wp2_with fail;go_loopw [9,52] (fun v9 v52 wr=>∃(i:Nat) (X2:MX),i<=ms.length/\v52=.int .i64 i/\Tk w X M (c+5) bx (.pointer (some ⟨X.mb,0,none⟩)) 56 2 ms.length (.slice A7 ms.length c7) (aU ms) wr X2 (gq M3 (ms.take i))) (fun _ v52 _=>ms.length-(intOf v52).toNat)
   case atStart=>exact⟨0,X5,Nat.zero_le _,rfl,HT7.out⟩
   case round=>
    obtain⟨i,X6,hi,rfl,ht⟩:=hrel;have hm4:ms.length<=4:=zo.out;by_cases hil:i<ms.length
    ·obtain⟨m,hm⟩:∃m,ms[i]? =some m:=⟨_,lB0 hil⟩;obtain⟨ad,rfl,had,d0,d1⟩:=jr (Src.bF ht.hr) (by omega) i m hm;obtain⟨W8,Ak⟩:∃W8,wr.alloc (.cells #[.int .i64 m.1,.int .i64 m.2] 56)=W8:=⟨_,rfl⟩;have hk8:Kept aj wr W8:=by rw[<-Ak];(repeat'(first|(with_reducible first|exact ak|apply au|apply ay|apply aA|apply aB)|(right;simp;done)))
     have Le:Has W8 wr.heap.size 56 #[.int .i64 m.1,.int .i64 m.2]:=by rw[<-Ak];exact Has.new _ _ _
     have p0:W8.cell? ⟨wr.heap.size,0,none⟩=some (.int .i64 m.1):=Le.cell 0;have p1:W8.cell? ⟨wr.heap.size,1,none⟩=some (.int .i64 m.2):=Le.cell 1;have ht8:=ht.quiet hk8;have htl:=ahj.out W8 X6 i m _ _ _ _ _ ht8 hm;obtain⟨m1,m2⟩:=m;dsimp only at Ak p0 p1 d0 d1;have Jt:=ah htl;clear htl ht8 ht hk8 Le hm;go_wp2_with fail;clear d0 d1 p0 p1 Ak;refine Jt.out.mono ?_;rintro e w9 ⟨rfl,X7,ht9⟩;have HT9:=ah ht9;clear ht9;go_wp2_with fail;go_roundw
     case rel=>exact⟨i+1,X7,by omega,by go_num,HT9.out⟩
     case measure=>simp[intOf];omega
    ·obtain rfl:i=ms.length:=by omega
     rw[HT4.out]at ht;have q1:wr.cell? ⟨bx,0,none⟩=some (.pointer (some ⟨X.mb,0,none⟩)):=ht.hb.cell 0;have HD:=ah (ahk.out _ _ _ _ _ _ _ ht);clear ht;go_wp2_with fail;clear q1;refine HD.out.mono ?_;rintro e w9 ⟨A9,d9,rfl,hp⟩;have HP:=ah hp;clear hp;go_wp2;go_ret;exact⟨A9,d9,rfl,HP.out⟩
end
end bW
namespace bW
open aJ Vn Mst jQ IM kK gu MO
def wR(a:fE):Bool:=decide (a.x.ms.length<=20)&&decide (a.x.ops.length<=20)&&decide (a.x.es.length<=20)&&decide (a.x.ss.length<=20)&&decide (a.x.ps.length<=40)
def Bv(l:List fE):Bool:=(l.take 60).all wR
theorem QC{a:fE}(h:wR a=true):a.x.ms.length<=20/\a.x.ops.length<=20/\a.x.es.length<=20/\a.x.ss.length<=20/\a.x.ps.length<=40:=by unfold wR at h;simp only[Bool.and_eq_true,decide_eq_true_eq]at h;exact⟨h.1.1.1.1,h.1.1.1.2,h.1.1.2,h.1.2,h.2⟩
theorem acX{a:fE}(h:20<a.x.ms.length\/20<a.x.ops.length\/20<a.x.es.length\/20<a.x.ss.length\/40<a.x.ps.length):wR a=false:=by
 cases hf:wR a with
 |false=>rfl
 |true=>have:=QC hf;omega
theorem aeL{a:fE}(h1:¬20<a.x.ms.length)(h2:¬20<a.x.ops.length)(h3:¬20<a.x.es.length)(h4:¬20<a.x.ss.length)(h5:¬40<a.x.ps.length):wR a=true:=by unfold wR;simp only[Bool.and_eq_true,decide_eq_true_eq];omega
theorem acY{l:List fE}(h:Bv l=true){i:Nat}{a:fE}(hi:i<60)(ha:l[i]? =some a):wR a=true:=by unfold Bv at h;rw[List.all_eq_true]at h;exact h a (lC0 (i:=i) (by rw[List.getElem?_take,if_pos hi];exact ha))
theorem ahl(x:bD):(aI x).toArray.all (·.oneCell')=true:=by simp[aI,Value.oneCell']
abbrev Wj:Array Value:=#[.int .i64 0,.int .i64 0,.int .i64 0,.int .i64 0,.bool false,.int .u64 0,.int .u64 0,.int .i64 0,.int .i64 0,.int .i64 0,.int .i64 0,.string ⟨#[]⟩,.string ⟨#[]⟩,.int .i64 0,.slice none 0 0,.int .u64 0,.int .i64 0,.int .i64 0,.slice none 0 0,.slice none 0 0,.slice none 0 0,.slice none 0 0]
theorem aeM(w:World)(x:bD):∃Wz W8,w.alloc (.cells Wj 45)=Wz/\(wO ⟨w.heap.size,0,none⟩ (.agg (aI x).toArray)).run Tryz.prog Wz=.ok () W8/\Has W8 w.heap.size 45 (aI x).toArray/\Kept aj w W8:=by have hz:Has (w.alloc (.cells Wj 45)) w.heap.size 45 Wj:=Has.new _ _ _;have e1:(w.alloc (.cells Wj 45)).setRow w.heap.size (aI x).toArray=w.alloc (.cells (aI x).toArray 45):=World.setRow_alloc_new ..;refine⟨_,w.alloc (.cells (aI x).toArray 45),rfl,?_,Has.new _ _ _,by(repeat'(first|(with_reducible first|exact ak|apply au|apply ay|apply aA|apply aB)|(right;simp;done)))⟩;rw[<-e1];exact run_storeVar_row _ w.heap.size _ _ _ _ hz (show(Tryz.prog.info? 45).map (·.size)=some 22 by kernel_rfl) rfl (ahl x)
attribute [local go_sem↓] Fg Bo
theorem aeN(w:World)(A:Option Addr)(c:Nat)(l:List fE)(hl:Src w 24 A l.length (xO l))(hls:∀a∈l,a.x.ms.length<=maxLen/\a.x.ops.length<=maxLen/\a.x.es.length<=maxLen/\a.x.ss.length<=maxLen/\a.x.ps.length<=maxLen):
  Calls Tryz.prog 4 #[.slice A l.length c] w fun e w'=>e=.returned (.bool (Bv l))/\Kept aj w w':=by
 have hsh:Bv l=((l.take 60).drop 0).all wR:=by rw[List.drop_zero];rfl
 have HL:=ah hl;have TI:=ah hls;have HSH:=ah hsh;clear hl hls hsh;go_enter Tryz.func4,Tryz.ntmps4;go_wp2_with fail;go_loopw [3,4] (fun v3 v4 wr=>∃i:Nat,i<=60/\i<=l.length/\v3=.int .i64 i/\Bv l=((l.take 60).drop i).all wR/\Kept aj w wr) (fun v3 _ _=>l.length-(intOf v3).toNat)
 case atStart=>exact⟨0,by omega,Nat.zero_le _,rfl,HSH.out,Kept.refl _ _⟩
 case round=>
  obtain⟨i,hi,hi2,rfl,he,hk⟩:=hrel;have HE:=ah he;have HK:=ah hk;clear he hk;by_cases hil:i<l.length
  ·by_cases hi6:i<60
   ·obtain⟨a,ha⟩:∃a,l[i]? =some a:=⟨_,lB0 hil⟩;obtain⟨ad,rfl,had,hld,-,-⟩:=Ap wr A l (HL.out.kept HK.out (fun _ _ z=>z)) i a ha;have hd:(l.take 60).drop i=a::(l.take 60).drop (i+1):=aJ.drop_cons (by rw[List.getElem?_take,if_pos hi6];exact ha);rw[hd,List.all_cons]at HE;obtain⟨k1,k2,k3,k4,k5⟩:=TI.out a (lC0 ha);unfold maxLen at k1 k2 k3 k4 k5;obtain⟨Wz,W8,Aj,hst,Uo,hk8⟩:=aeM wr a.x;have p1:W8.cell? ⟨wr.heap.size,14,none⟩=some (.slice a.x.mA a.x.ms.length a.x.mc):=Uo.cell 14;have p2:W8.cell? ⟨wr.heap.size,18,none⟩=some (.slice a.x.oA a.x.ops.length a.x.oc):=Uo.cell 18;have p3:W8.cell? ⟨wr.heap.size,19,none⟩=some (.slice a.x.eA a.x.es.length a.x.ec):=Uo.cell 19;have p4:W8.cell? ⟨wr.heap.size,20,none⟩=some (.slice a.x.sA a.x.ss.length a.x.sc):=Uo.cell 20;have p5:W8.cell? ⟨wr.heap.size,21,none⟩=some (.slice a.x.pA a.x.ps.length a.x.pc):=Uo.cell 21;have zf:=ah (HK.out.then hk8);have KW:=ah (acX (a:=a));have agB:=ah (aeL (a:=a));obtain⟨cs,hcs⟩:∃cs,(aI a.x).toArray=cs:=⟨_,rfl⟩;rw[hcs]at hld hst;obtain⟨n1,e1⟩:∃n,a.x.ms.length=n:=⟨_,rfl⟩;obtain⟨n2,e2⟩:∃n,a.x.ops.length=n:=⟨_,rfl⟩;obtain⟨n3,e3⟩:∃n,a.x.es.length=n:=⟨_,rfl⟩;obtain⟨n4,e4⟩:∃n,a.x.ss.length=n:=⟨_,rfl⟩;obtain⟨n5,e5⟩:∃n,a.x.ps.length=n:=⟨_,rfl⟩;rw[e1]at k1 p1;rw[e2]at k2 p2;rw[e3]at k3 p3;rw[e4]at k4 p4;rw[e5]at k5 p5;rw[e1,e2,e3,e4,e5]at KW agB;clear hd ha Uo hk8 hcs e1 e2 e3 e4 e5;have hbad:wR a=false->Bv l=false:=fun h=>by rw[HE.out,h,Bool.false_and]
    have HBAD:=ah hbad;clear hbad;by_cases g1:20<n1
    ·have g1':(20:Int)<(n1:Int):=by omega
     have HF:=ah (HBAD.out (KW.out (by omega)));clear g1 k2 k3 k4 k5 p2 p3 p4 p5;go_wp2;go_ret;exact⟨by rw[HF.out];rfl,zf.out⟩
    have g1':¬(20:Int)<(n1:Int):=by omega
    by_cases g2:20<n2
    ·have g2':(20:Int)<(n2:Int):=by omega
     have HF:=ah (HBAD.out (KW.out (by omega)));clear g1 g2 k3 k4 k5 p3 p4 p5;go_wp2;go_ret;exact⟨by rw[HF.out];rfl,zf.out⟩
    have g2':¬(20:Int)<(n2:Int):=by omega
    by_cases g3:20<n3
    ·have g3':(20:Int)<(n3:Int):=by omega
     have HF:=ah (HBAD.out (KW.out (by omega)));clear g1 g2 g3 k4 k5 p4 p5;go_wp2;go_ret;exact⟨by rw[HF.out];rfl,zf.out⟩
    have g3':¬(20:Int)<(n3:Int):=by omega
    by_cases g4:20<n4
    ·have g4':(20:Int)<(n4:Int):=by omega
     have HF:=ah (HBAD.out (KW.out (by omega)));clear g1 g2 g3 g4 k5 p5;go_wp2;go_ret;exact⟨by rw[HF.out];rfl,zf.out⟩
    have g4':¬(20:Int)<(n4:Int):=by omega
    by_cases g5:40<n5
    ·have g5':(40:Int)<(n5:Int):=by omega
     have HF:=ah (HBAD.out (KW.out (by omega)));clear g1 g2 g3 g4 g5;go_wp2;go_ret;exact⟨by rw[HF.out];rfl,zf.out⟩
    have g5':¬(40:Int)<(n5:Int):=by omega
    have HGO:=ah (show Bv l=((l.take 60).drop (i+1)).all wR by rw[HE.out,agB.out g1 g2 g3 g4 g5,Bool.true_and]);clear g1 g2 g3 g4 g5;go_wp2;go_roundw
    case rel=>exact⟨i+1,by omega,by omega,by go_num,HGO.out,zf.out⟩
    case measure=>simp[intOf];omega
   ·obtain rfl:i=60:=by omega
    have HF:=ah (show Bv l=true by rw[HE.out,List.drop_eq_nil_of_le (by rw[List.length_take];omega)];rfl);go_wp2;go_ret;exact⟨by rw[HF.out];rfl,HK.out⟩
  ·obtain rfl:i=l.length:=by omega
   have HF:=ah (show Bv l=true by rw[HE.out,List.drop_eq_nil_of_le (by rw[List.length_take];omega)];rfl);go_wp2;go_ret;exact⟨by rw[HF.out];rfl,HK.out⟩
def jJ(M:MR)(a:fE):MR:=if 0<=a.k/\a.k<=3 then cZ M a.n a.x else if a.k=4\/a.k=5 then lU M else if a.k=6 then ni M a.n else if a.k=7 then kN M a.n else M
section
variable{w w':World}{X X0:MX}{M M0:MR}{c k:Nat}
def xQ(w:World)(X:MX)(M:MR)(c:Nat)(a:fE)(e:Ending)(w':World):Prop:=e=.returned (.bool (decide (0<=a.k/\a.k<=7)))/\∃X',Step w X M w' X' (jJ M a)/\dG X' (jJ M a).lg (c+6)
theorem bC.act{w:World}(h:bC M k)(a:fE)(hi:I64 a.x.aX)(hok:jd w a.x):bC (jJ M a) (k+1):=by
 unfold jJ;split
 ·exact h.deliver a.n a.x hi hok
 split
 ·exact h.tick.mono (Nat.le_succ _)
 split
 ·exact h.join a.n
 split
 ·exact h.leave a.n
 ·exact h.mono (Nat.le_succ _)
theorem aac(M:MR)(i:Int):(ni M i).out=M.out:=by unfold ni;split<;>rfl
theorem Wn(M:MR)(i:Int):(kN M i).out=M.out:=by unfold kN;split<;>rfl
theorem acZ(M:MR)(a:fE)(h:M.out=[]):(jJ M a).out=[]:=by
 unfold jJ;split
 ·unfold cZ;split
  ·rfl
  ·exact h
 split
 ·rfl
 split
 ·rw[aac];exact h
 split
 ·rw[Wn];exact h
 ·exact h
theorem Step.J3{o:List AZ}{e:Ending}(h:nV w X M c o M0 e w'):(∃v:Value,e=.returned v)/\∃X',Step w X M w' X' M0/\dG X' M0.lg c:=by obtain⟨A,d,rfl,_,_,X',h4,h5,_⟩:=h;exact⟨⟨_,rfl⟩,X',h4,h5⟩
attribute [local go_sem↓] Bo
theorem agC(h:dJ w X M)(hb:dG X M.lg c)(hc:c<=2900)(hm:bC M k)(hk:k<=900)(ho:M.out=[])(a:fE)(hx:jd w a.x)(hxs:I64 a.x.aX)(hi64:I64 a.n):
  Calls Tryz.prog 9 #[.pointer (some ⟨X.mb,0,none⟩),.agg (fZ a).toArray] w (xQ w X M c a):=by
 obtain⟨W0,hW0⟩:∃W0,w.alloc (.cells (fZ a).toArray 47)=W0:=⟨_,rfl⟩;have hk0:Kept aj w W0:=by rw[<-hW0];(repeat'(first|(with_reducible first|exact ak|apply au|apply ay|apply aA|apply aB)|(right;simp;done)))
 have hn0:Has W0 w.heap.size 47 (fZ a).toArray:=by rw[<-hW0];exact Has.new _ _ _
 have hld:=JK W0 w.heap.size a hn0;have hol:M.out.length<=90:=by rw[ho];decide
 have q0:W0.cell? ⟨w.heap.size,0,none⟩=some (.int .i64 a.k):=hn0.cell 0;have q1:W0.cell? ⟨w.heap.size,1,none⟩=some (.int .i64 a.n):=hn0.cell 1;have hq:=h.quiet hk0;have hA:∀W' M9 X9 d,d<=6->jJ M a=M9->Step W0 X M W' X9 M9->dG X9 M9.lg (c+d)->0<=a.k/\a.k<=7->xQ w X M c a (.returned (.bool true)) W':=fun W' M9 X9 d hd e1 hs hl hk=>by refine⟨by rw[decide_eq_true hk],X9,?_⟩;rw[e1];exact⟨(Step.refl h hk0).trans hs,hl.mono (by omega)⟩
 have hdel:=fun hk3:0<=a.k/\a.k<=3=>(G4 hq hb hc hm hk hol a.n a.x (hx.kept hk0) hxs hi64).mono fun e W' hp=>show(∃v:Value,e=.returned v)/\xQ w X M c a (.returned (.bool true)) W' from by obtain⟨h1,X9,h2,h3⟩:=Step.J3 hp;exact⟨h1,hA W' _ X9 3 (by omega) (by unfold jJ;rw[if_pos hk3]) h2 h3 (by omega)⟩
 have Aw:=fun hk3:a.k=4\/a.k=5=>(QB hq hb hc hm (by omega) hol).mono fun e W' hp=>show(∃v:Value,e=.returned v)/\xQ w X M c a (.returned (.bool true)) W' from by obtain⟨h1,X9,h2,h3⟩:=Step.J3 hp;exact⟨h1,hA W' _ X9 6 (by omega) (by unfold jJ;rw[if_neg (by omega),if_pos hk3]) h2 h3 (by omega)⟩
 have J4:=fun hk3:a.k=6=>(Zy hq hb hm (by omega) a.n).mono fun e W' hp=>show(∃v:Value,e=.returned v)/\xQ w X M c a (.returned (.bool true)) W' from by obtain⟨h1,X9,h2,h3⟩:=hp;exact⟨⟨_,h1⟩,hA W' _ X9 0 (by omega) (by unfold jJ;rw[if_neg (by omega),if_neg (by omega),if_pos hk3]) h2 h3 (by omega)⟩
 have hleave:=fun hk3:a.k=7=>(VK hq hb hm (by omega) a.n).mono fun e W' hp=>show(∃v:Value,e=.returned v)/\xQ w X M c a (.returned (.bool true)) W' from by obtain⟨h1,X9,h2,h3⟩:=hp;exact⟨⟨_,h1⟩,hA W' _ X9 0 (by omega) (by unfold jJ;rw[if_neg (by omega),if_neg (by omega),if_neg (by omega),if_pos hk3]) h2 h3 (by omega)⟩
 have hnone:¬(0<=a.k/\a.k<=7)->xQ w X M c a (.returned (.bool false)) W0:=fun hn=>by
  refine⟨by rw[decide_eq_false hn],X,?_⟩;have e1:jJ M a=M:=by unfold jJ;rw[if_neg (by omega),if_neg (by omega),if_neg (by omega),if_neg (by omega)]
  rw[e1];exact⟨Step.refl h hk0,hb.mono (by omega)⟩
 obtain⟨Q,hQ⟩:∃Q,xQ w X M c a=Q:=⟨_,rfl⟩;simp only[hQ]at hdel Aw J4 hleave hnone⊢;obtain⟨kk,hkk⟩:∃kk,a.k=kk:=⟨_,rfl⟩;obtain⟨nn,hnn⟩:∃nn,a.n=nn:=⟨_,rfl⟩;obtain⟨cs,hcs⟩:∃cs,(aI a.x).toArray=cs:=⟨_,rfl⟩;have adS:0<=kk/\kk<=3->Calls Tryz.prog 14 #[.pointer (some ⟨X.mb,0,none⟩),.int .i64 nn,.agg cs] W0 fun e W'=>(∃v:Value,e=.returned v)/\Q (.returned (.bool true)) W':=by rw[<-hkk,<-hnn,<-hcs];exact hdel
 rw[hkk]at Aw J4 hleave hnone q0;rw[hnn]at J4 hleave q1;rw[hcs]at hld;have KX:=ah adS;have N8:=ah Aw;have Wq:=ah J4;have QD:=ah hleave;have JZ:=ah hnone;clear adS hdel Aw J4 hleave hnone hA hq hn0 hk0 hol hQ hkk hnn hcs h hb hc hm hk ho hx hxs hi64;by_cases hr:0<=kk/\kk<=7
 ·have hcase:kk=0\/kk=1\/kk=2\/kk=3\/kk=4\/kk=5\/kk=6\/kk=7:=by omega
  clear hr;rcases hcase with rfl|rfl|rfl|rfl|rfl|rfl|rfl|rfl
  case' inl=>have HX:=ah (KX.out (by decide))
  case' inr.inl=>have HX:=ah (KX.out (by decide))
  case' inr.inr.inl=>have HX:=ah (KX.out (by decide))
  case' inr.inr.inr.inl=>have HX:=ah (KX.out (by decide))
  case' inr.inr.inr.inr.inl=>have HX:=ah (N8.out (by decide))
  case' inr.inr.inr.inr.inr.inl=>have HX:=ah (N8.out (by decide))
  case' inr.inr.inr.inr.inr.inr.inl=>have HX:=ah (Wq.out rfl)
  case' inr.inr.inr.inr.inr.inr.inr=>have HX:=ah (QD.out rfl)
  all_goals (
   clear KX N8 Wq QD JZ
   go_enter Tryz.func9,Tryz.ntmps9
   go_wp2_with fail
   clear hW0 q0 q1 hld
   refine HX.out.mono ?_
   rintro e w2 ⟨⟨v,rfl⟩,hq⟩
   have HQ:=ah hq;clear hq
   go_wp2
   exact HQ.out)
 ·have HX:=ah (JZ.out hr);have n0:(kk==0)=false:=by simp;omega
  have n1:(kk==1)=false:=by simp;omega
  have n2:(kk==2)=false:=by simp;omega
  have n3:(kk==3)=false:=by simp;omega
  have n4:(kk==4)=false:=by simp;omega
  have n5:(kk==5)=false:=by simp;omega
  have n6:(kk==6)=false:=by simp;omega
  have n7:(kk==7)=false:=by simp;omega
  clear KX N8 Wq QD JZ hr hld q1;go_enter Tryz.func9,Tryz.ntmps9;go_wp2;exact HX.out

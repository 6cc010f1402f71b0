/- For every number and every list of what happens to a client, ClientPlays returns true: each answer, and all that goes out, is the document's. -/
import Derived.Test.YtgbigpdiacjbgaaGreatKP53
set_option linter.unusedSimpArgs false
set_option linter.unusedVariables false
set_option maxHeartbeats 32000000
set_option maxRecDepth 100000
namespace Go.Proofs.YtgbigpdiacjbgaaGreat.clientPlays
open Go.ChangeShapes Go.WideShapes Go.ChangeAt Go.RowKit
open Go.ChangeMaps (open_string shut_string)
set_option maxRecDepth 100000 in
theorem contract(H:Type)(enc:TypeId×Value->H)(W:World)(base:Nat)(args:Array Value)(ds gs:List (DataW H))(before:List MemPlace)
  (hval:∀(j:Nat) t v,Tryz.f5.params[j]? =some t->args[j]? =some v->Value.okWide Tryz.prog W .any base t v)
  (hW:DataW.Whole enc Tryz.prog Tryz.f5.params.toList Rows.clientPlaysSpec.vars false W args.toList ds gs before):
  Calls Tryz.prog 5 args W fun e W'=>∃v,e=.returned v/\Rows.clientPlaysSpec.post enc Tryz.prog Tryz.f5 false true false false W args v W':=by
 have hW':=hW;obtain⟨p,q,hA0,hV,rfl,hfz,hnd⟩:=hW;have hA:DataW.TrodAll enc Tryz.prog W 0 (fun _=>true) true Tryz.f5.params.toList args.toList ds p:=hA0;rw[Tryz.params5]at hA hval;obtain⟨v0,vs0,d0,ds0,p0,q0,hargs,rfl,rfl,h0,r0⟩:=trodAll_cons hA;obtain⟨v1,vs1,d1,ds1,p1,q1,rfl,rfl,rfl,h1,r1⟩:=trodAll_cons r0;obtain⟨rfl,rfl,rfl⟩:=trodAll_nil r1;obtain rfl:args=#[v0,v1]:=by cases args;simp_all
 obtain⟨rfl,rfl⟩:=trodVars_none hV;have hlt:∀x:MemPlace,x∈_->x.block<W.heap.size:=fun x hx=>hW'.lt x hx;have g0:=h0;have g1:=h1;obtain⟨a0,rfl,rfl,rfl,w0⟩:=open_int Tryz.underlying3 (hval 0 3 v0 rfl rfl) h0;obtain⟨A1,c1,l1,rfl,abT,hcm1,hs1,hg1⟩:=Cli.Qk (hval 1 29 v1 rfl rfl) h1;clear hA0;refine(wC.Ql W a0 A1 c1 l1 hs1 hg1 abT hcm1).mono fun e W' ⟨he,hb⟩=> ?_;subst he
 exact⟨_,rfl,Om (pv:=[]) hW' (fun _ _ _=>trodAll_cons_mk (shut_bool Tryz.underlying4 _) trodAll_mk0)
  (fun sp hsp=>(trodAll_cons_mk (II (by kernel_rfl) (by kernel_rfl) g0 hb hlt (fun x hx=>hsp x hx) (fun x hx=>by first|(simp at hx;done)|simp[hx])) (trodAll_cons_mk (II (by kernel_rfl) (by kernel_rfl) g1 hb hlt (fun x hx=>hsp x hx) (fun x hx=>by first|(simp at hx;done)|simp[hx])) trodAll_mk0))) (fun _ _=>rfl) (by simp)
  hb (ok_one (by kernel_rfl) rfl (okWide_bool_mk Tryz.underlying4 _))⟩
theorem an{a b:Bool}(ha:a=true)(hb:b=true):(a&&b)=true:=by rw[ha,hb];rfl
theorem jf0:(Rows.clientPlaysRow.wf (OpenSpec.ofChange Rows.clientPlaysSpec))=true:=by kernel_rfl
theorem jf1:(laidOutB Tryz.pinned.checked.prog)=true:=by kernel_rfl
theorem jf2:(mapsRowed Tryz.pinned.checked.prog)=true:=by kernel_rfl
theorem jf3:(Tryz.f5.params.all (Tryz.pinned.checked.prog.readableRec ·))=true:=by kernel_rfl
theorem jf4:(namedTie Tryz.pinned.checked.prog Rows.clientPlaysRow.named Rows.clientPlaysSpec.vars)=true:=by kernel_rfl
theorem jf5:((Rows.clientPlaysRow.stops==[]))=true:=by kernel_rfl
theorem jf6:((Tryz.pinned.checked.prog.stops==[]))=true:=by kernel_rfl
theorem jf7:((Rows.clientPlaysRow.knobs==[]))=true:=by kernel_rfl
theorem jf8:((Tryz.pinned.checked.prog.stopKnobs==[]))=true:=by kernel_rfl
theorem jf9:((Rows.clientPlaysRow.inPlace==Tryz.pinned.checked.prog.inPlace 5))=true:=by kernel_rfl
theorem abU:((Rows.clientPlaysRow.unfollowed==Tryz.pinned.checked.prog.unfollowed 5))=true:=by kernel_rfl
theorem abV:((Rows.clientPlaysRow.recurses==Tryz.pinned.checked.prog.recurses 5))=true:=by kernel_rfl
theorem abW:((Rows.clientPlaysRow.named==Tryz.pinned.checked.prog.varsNamed 5))=true:=by kernel_rfl
theorem abX:((Rows.clientPlaysRow.maps==(Tryz.f5.params.toList++Rows.clientPlaysSpec.plain.varTypes Tryz.pinned.checked.prog).any (Tryz.pinned.checked.prog.mapsRec ·)))=true:=by kernel_rfl
theorem abY:((Rows.clientPlaysRow.ifaces==(Tryz.f5.params.toList++Rows.clientPlaysSpec.plain.varTypes Tryz.pinned.checked.prog).any (Tryz.pinned.checked.prog.ifacesRec ·)))=true:=by kernel_rfl
theorem abZ:((Rows.clientPlaysRow.mapsOut==Tryz.pinned.checked.prog.mapsAmong Tryz.f5.resultTypes.toList))=true:=by kernel_rfl
theorem ab1:((Rows.clientPlaysRow.loops==(Tryz.f5.params.toList++Rows.clientPlaysSpec.plain.varTypes Tryz.pinned.checked.prog).any (Tryz.pinned.checked.prog.loopsFrom ·)))=true:=by kernel_rfl
theorem ab2:((Rows.clientPlaysRow.wideKeys==(Tryz.f5.params.toList++Rows.clientPlaysSpec.plain.varTypes Tryz.pinned.checked.prog++Tryz.f5.resultTypes.toList).any (Tryz.pinned.checked.prog.wideKeysFrom ·)))=true:=by kernel_rfl
theorem ab3:(Rows.clientPlaysSpec.vars.all (Tryz.pinned.checked.prog.varReadable ·))=true:=by kernel_rfl
theorem ab4:(Tryz.f5.resultTypes.all (fun t=>Tryz.pinned.checked.prog.readableRec t&&decide (t<Tryz.pinned.checked.prog.types.size)))=true:=by kernel_rfl
theorem ab5:((Rows.clientPlaysRow.ifacesOut==Tryz.f5.resultTypes.toList.any (Tryz.pinned.checked.prog.ifacesRec ·)))=true:=by kernel_rfl
theorem ab6:((Rows.clientPlaysRow.loopsOut==Tryz.f5.resultTypes.toList.any (Tryz.pinned.checked.prog.loopsFrom ·)))=true:=by kernel_rfl
theorem ab7:((Rows.clientPlaysRow.plainKeys==Tryz.pinned.checked.prog.plainKeys))=true:=by kernel_rfl
theorem ab8:(Rows.clientPlaysRow.shortTexts.isNone)=true:=by kernel_rfl
theorem ab9:(Tryz.pinned.checked.prog.stopsHeard)=true:=by kernel_rfl
theorem acd:(Tryz.pinned.checked.prog.mayEnter)=true:=by kernel_rfl
theorem ace:((Rows.clientPlaysRow.lifted==Tryz.pinned.checked.prog.liftsFinal))=true:=by kernel_rfl
theorem acf:((Tryz.pinned.checked.prog.make==some Rows.clientPlaysRow.make))=true:=by kernel_rfl
theorem acg:((Rows.clientPlaysRow.kinds==(if Rows.clientPlaysRow.domain.isEmpty then []else Tryz.f5.params.toList.map fun t=>match Tryz.pinned.checked.prog.underlying t with|some (.int k)=>some k|_=>none)))=true:=by kernel_rfl
theorem ach:((Rows.clientPlaysRow.pinned==Rows.clientPlaysRow.pinnedBy))=true:=by kernel_rfl
theorem aci:((Rows.clientPlaysRow.veiled==(Tryz.f5.params.toList++Rows.clientPlaysSpec.plain.varTypes Tryz.pinned.checked.prog++Tryz.f5.resultTypes.toList).any (Tryz.pinned.checked.prog.veiledRec ·)))=true:=by kernel_rfl
theorem acj:(Rows.clientPlaysRow.veiledFits Tryz.pinned.checked.prog Tryz.f5.params.toList (Tryz.f5.params.toList++Rows.clientPlaysSpec.plain.varTypes Tryz.pinned.checked.prog++Tryz.f5.resultTypes.toList))=true:=by kernel_rfl
theorem closed:joinedFacts Tryz.pinned.checked.prog 5 Tryz.f5 Rows.clientPlaysSpec Rows.clientPlaysRow=true:=(an (an (an (an (an (an (an (an (an (an (an (an (an (an (an (an (an (an (an (an (an (an (an (an (an (an (an (an (an (an (an jf0 jf1) jf2) jf3) jf4) jf5) jf6) jf7) jf8) jf9) abU) abV) abW) abX) abY) abZ) ab1) ab2) ab3) ab4) ab5) ab6) ab7) ab8) ab9) acd) ace) acf) acg) ach) aci) acj)
set_option maxRecDepth 100000 in
theorem lifted(os:Os)(started:os.Started)(H:Type)(enc:TypeId×Value->H):
  ReturnsInHanded {} Tryz.checked os 5 .any (Rows.clientPlaysSpec.pre6 enc Tryz.prog Tryz.f5 Rows.clientPlaysRow.domain false) (Rows.clientPlaysSpec.post enc Tryz.prog Tryz.f5 false true false false):=by
 refine returnsInHanded_of_change (C:=Tryz.checked) own started (by kernel_rfl) Tryz.func5
  (ChangeSpec.witness6 (enc:=enc) (C:=Tryz.checked) false ⟨#[],#[.int .i64 0,.slice none 0 0],[]⟩ 8 (by kernel_rfl) (by kernel_rfl) (by kernel_rfl) (by kernel_rfl)) ?_
 intro W base args ds gs before hval hW _ _;exact contract H enc W base args ds gs before hval hW
set_option maxRecDepth 100000 in
theorem proved:Rows.ClientPlaysSaid:=
 OpenClaim.holds_of_wide 5 Tryz.f5 rfl rfl rfl rfl rfl rfl rfl ⟨rfl,rfl,rfl,rfl,rfl⟩ rfl rfl rfl rfl rfl (by kernel_rfl) Tryz.func5 closed
  (of_decide_eq_true (by kernel_rfl)) (by unfold Func.isWrapper;first|(rw[if_pos (by decide+kernel)];kernel_rfl)|(rw[if_neg (by decide+kernel)];exact⟨rfl,rfl⟩))
  (fun os started H enc _=>lifted os started H enc)

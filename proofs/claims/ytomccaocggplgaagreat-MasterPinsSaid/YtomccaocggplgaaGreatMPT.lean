/- For every configuration and every list of what happens to a master, crashes too, MasterPins returns true: the horizon never goes back, and a pin that a client was told, and that has ticks left, is there, and the horizon is not above it. -/
import Derived.Test.YtomccaocggplgaaGreatMP39
set_option linter.unusedSimpArgs false
set_option linter.unusedVariables false
set_option maxHeartbeats 32000000
set_option maxRecDepth 100000
namespace Go.Proofs.YtomccaocggplgaaGreat.masterPins
open Go.ChangeShapes Go.WideShapes Go.ChangeAt Go.RowKit
open Go.ChangeMaps (open_string shut_string)
set_option maxRecDepth 100000 in
theorem contract(H:Type)(enc:TypeId×Value->H)(W:World)(base:Nat)(args:Array Value)(ds gs:List (DataW H))(before:List MemPlace)
  (hval:∀(j:Nat) t v,Tryz.f3.params[j]? =some t->args[j]? =some v->Value.okWide Tryz.prog W .any base t v)
  (hW:DataW.Whole enc Tryz.prog Tryz.f3.params.toList Rows.masterPinsSpec.vars false W args.toList ds gs before):
  Calls Tryz.prog 3 args W fun e W'=>∃v,e=.returned v/\Rows.masterPinsSpec.post enc Tryz.prog Tryz.f3 false true false false W args v W':=by
 have hW':=hW;obtain⟨p,q,hA0,hV,rfl,hfz,hnd⟩:=hW;have hA:DataW.TrodAll enc Tryz.prog W 0 (fun _=>true) true Tryz.f3.params.toList args.toList ds p:=hA0;rw[Tryz.params3]at hA hval;obtain⟨v0,vs0,d0,ds0,p0,q0,hargs,rfl,rfl,h0,r0⟩:=trodAll_cons hA;obtain⟨v1,vs1,d1,ds1,p1,q1,rfl,rfl,rfl,h1,r1⟩:=trodAll_cons r0;obtain⟨rfl,rfl,rfl⟩:=trodAll_nil r1;obtain rfl:args=#[v0,v1]:=by cases args;simp_all
 obtain⟨rfl,rfl⟩:=trodVars_none hV;have hlt:∀x:MemPlace,x∈_->x.block<W.heap.size:=fun x hx=>hW'.lt x hx;have g0:=h0;have g1:=h1;obtain⟨ep0,fl0,A0,c0,l0,rfl,aij,hcm0,hs0,hi0,hf0⟩:=MO.VU (hval 0 25 v0 rfl rfl) h0;obtain⟨A1,c1,l1,rfl,aik,hcm1,hs1,hg1⟩:=MO.ZP (hval 1 26 v1 rfl rfl) h1;clear hA0;refine(bW.aaH W ep0 fl0 A0 c0 l0 A1 c1 l1 hs0 aij hcm0 hf0 hs1 hg1 aik hcm1).mono fun e W' ⟨he,hb⟩=> ?_;subst he
 exact⟨_,rfl,Ux (pv:=[]) hW' (fun _ _ _=>trodAll_cons_mk (shut_bool Tryz.underlying4 _) trodAll_mk0)
  (fun sp hsp=>(trodAll_cons_mk (Ll (by kernel_rfl) (by kernel_rfl) g0 hb hlt (fun x hx=>hsp x hx) (fun x hx=>by first|(simp at hx;done)|simp[hx])) (trodAll_cons_mk (Ll (by kernel_rfl) (by kernel_rfl) g1 hb hlt (fun x hx=>hsp x hx) (fun x hx=>by first|(simp at hx;done)|simp[hx])) trodAll_mk0))) (fun _ _=>rfl) (by simp)
  hb (ok_one (by kernel_rfl) rfl (okWide_bool_mk Tryz.underlying4 _))⟩
theorem an{a b:Bool}(ha:a=true)(hb:b=true):(a&&b)=true:=by rw[ha,hb];rfl
theorem jf0:(Rows.masterPinsRow.wf (OpenSpec.ofChange Rows.masterPinsSpec))=true:=by kernel_rfl
theorem jf1:(laidOutB Tryz.pinned.checked.prog)=true:=by kernel_rfl
theorem jf2:(mapsRowed Tryz.pinned.checked.prog)=true:=by kernel_rfl
theorem jf3:(Tryz.f3.params.all (Tryz.pinned.checked.prog.readableRec ·))=true:=by kernel_rfl
theorem jf4:(namedTie Tryz.pinned.checked.prog Rows.masterPinsRow.named Rows.masterPinsSpec.vars)=true:=by kernel_rfl
theorem jf5:((Rows.masterPinsRow.stops==[]))=true:=by kernel_rfl
theorem jf6:((Tryz.pinned.checked.prog.stops==[]))=true:=by kernel_rfl
theorem jf7:((Rows.masterPinsRow.knobs==[]))=true:=by kernel_rfl
theorem jf8:((Tryz.pinned.checked.prog.stopKnobs==[]))=true:=by kernel_rfl
theorem jf9:((Rows.masterPinsRow.inPlace==Tryz.pinned.checked.prog.inPlace 3))=true:=by kernel_rfl
theorem ail:((Rows.masterPinsRow.unfollowed==Tryz.pinned.checked.prog.unfollowed 3))=true:=by kernel_rfl
theorem aim:((Rows.masterPinsRow.recurses==Tryz.pinned.checked.prog.recurses 3))=true:=by kernel_rfl
theorem ain:((Rows.masterPinsRow.named==Tryz.pinned.checked.prog.varsNamed 3))=true:=by kernel_rfl
theorem aio:((Rows.masterPinsRow.maps==(Tryz.f3.params.toList++Rows.masterPinsSpec.plain.varTypes Tryz.pinned.checked.prog).any (Tryz.pinned.checked.prog.mapsRec ·)))=true:=by kernel_rfl
theorem aip:((Rows.masterPinsRow.ifaces==(Tryz.f3.params.toList++Rows.masterPinsSpec.plain.varTypes Tryz.pinned.checked.prog).any (Tryz.pinned.checked.prog.ifacesRec ·)))=true:=by kernel_rfl
theorem aiq:((Rows.masterPinsRow.mapsOut==Tryz.pinned.checked.prog.mapsAmong Tryz.f3.resultTypes.toList))=true:=by kernel_rfl
theorem air:((Rows.masterPinsRow.loops==(Tryz.f3.params.toList++Rows.masterPinsSpec.plain.varTypes Tryz.pinned.checked.prog).any (Tryz.pinned.checked.prog.loopsFrom ·)))=true:=by kernel_rfl
theorem ais:((Rows.masterPinsRow.wideKeys==(Tryz.f3.params.toList++Rows.masterPinsSpec.plain.varTypes Tryz.pinned.checked.prog++Tryz.f3.resultTypes.toList).any (Tryz.pinned.checked.prog.wideKeysFrom ·)))=true:=by kernel_rfl
theorem ait:(Rows.masterPinsSpec.vars.all (Tryz.pinned.checked.prog.varReadable ·))=true:=by kernel_rfl
theorem aiu:(Tryz.f3.resultTypes.all (fun t=>Tryz.pinned.checked.prog.readableRec t&&decide (t<Tryz.pinned.checked.prog.types.size)))=true:=by kernel_rfl
theorem aiv:((Rows.masterPinsRow.ifacesOut==Tryz.f3.resultTypes.toList.any (Tryz.pinned.checked.prog.ifacesRec ·)))=true:=by kernel_rfl
theorem aiw:((Rows.masterPinsRow.loopsOut==Tryz.f3.resultTypes.toList.any (Tryz.pinned.checked.prog.loopsFrom ·)))=true:=by kernel_rfl
theorem aix:((Rows.masterPinsRow.plainKeys==Tryz.pinned.checked.prog.plainKeys))=true:=by kernel_rfl
theorem aiy:(Rows.masterPinsRow.shortTexts.isNone)=true:=by kernel_rfl
theorem aiz:(Tryz.pinned.checked.prog.stopsHeard)=true:=by kernel_rfl
theorem aiA:(Tryz.pinned.checked.prog.mayEnter)=true:=by kernel_rfl
theorem aiB:((Rows.masterPinsRow.lifted==Tryz.pinned.checked.prog.liftsFinal))=true:=by kernel_rfl
theorem aiC:((Tryz.pinned.checked.prog.make==some Rows.masterPinsRow.make))=true:=by kernel_rfl
theorem aiD:((Rows.masterPinsRow.kinds==(if Rows.masterPinsRow.domain.isEmpty then []else Tryz.f3.params.toList.map fun t=>match Tryz.pinned.checked.prog.underlying t with|some (.int k)=>some k|_=>none)))=true:=by kernel_rfl
theorem aiE:((Rows.masterPinsRow.pinned==Rows.masterPinsRow.pinnedBy))=true:=by kernel_rfl
theorem aiF:((Rows.masterPinsRow.veiled==(Tryz.f3.params.toList++Rows.masterPinsSpec.plain.varTypes Tryz.pinned.checked.prog++Tryz.f3.resultTypes.toList).any (Tryz.pinned.checked.prog.veiledRec ·)))=true:=by kernel_rfl
theorem aiG:(Rows.masterPinsRow.veiledFits Tryz.pinned.checked.prog Tryz.f3.params.toList (Tryz.f3.params.toList++Rows.masterPinsSpec.plain.varTypes Tryz.pinned.checked.prog++Tryz.f3.resultTypes.toList))=true:=by kernel_rfl
theorem closed:joinedFacts Tryz.pinned.checked.prog 3 Tryz.f3 Rows.masterPinsSpec Rows.masterPinsRow=true:=(an (an (an (an (an (an (an (an (an (an (an (an (an (an (an (an (an (an (an (an (an (an (an (an (an (an (an (an (an (an (an jf0 jf1) jf2) jf3) jf4) jf5) jf6) jf7) jf8) jf9) ail) aim) ain) aio) aip) aiq) air) ais) ait) aiu) aiv) aiw) aix) aiy) aiz) aiA) aiB) aiC) aiD) aiE) aiF) aiG)
set_option maxRecDepth 100000 in
theorem lifted(os:Os)(started:os.Started)(H:Type)(enc:TypeId×Value->H):
  ReturnsInHanded {} Tryz.checked os 3 .any (Rows.masterPinsSpec.pre6 enc Tryz.prog Tryz.f3 Rows.masterPinsRow.domain false) (Rows.masterPinsSpec.post enc Tryz.prog Tryz.f3 false true false false):=by
 refine returnsInHanded_of_change (C:=Tryz.checked) own started (by kernel_rfl) Tryz.func3
  (ChangeSpec.witness6 (enc:=enc) (C:=Tryz.checked) false ⟨#[],#[.agg #[.int .i64 0,.slice none 0 0,.int .u64 0],.slice none 0 0],[]⟩ 8 (by kernel_rfl) (by kernel_rfl) (by kernel_rfl) (by kernel_rfl)) ?_
 intro W base args ds gs before hval hW _ _;exact contract H enc W base args ds gs before hval hW
set_option maxRecDepth 100000 in
theorem proved:Rows.MasterPinsSaid:=
 OpenClaim.holds_of_wide 3 Tryz.f3 rfl rfl rfl rfl rfl rfl rfl ⟨rfl,rfl,rfl,rfl,rfl⟩ rfl rfl rfl rfl rfl (by kernel_rfl) Tryz.func3 closed
  (of_decide_eq_true (by kernel_rfl)) (by unfold Func.isWrapper;first|(rw[if_pos (by decide+kernel)];kernel_rfl)|(rw[if_neg (by decide+kernel)];exact⟨rfl,rfl⟩))
  (fun os started H enc _=>lifted os started H enc)

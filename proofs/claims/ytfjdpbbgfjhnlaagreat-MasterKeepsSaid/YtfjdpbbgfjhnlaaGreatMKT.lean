/- For every configuration, every list of what happens to a master, and every number, MasterKeeps returns true: behind a crash Open finds all that the master knew. -/
import Derived.Test.YtfjdpbbgfjhnlaaGreatMK43
set_option linter.unusedSimpArgs false
set_option linter.unusedVariables false
set_option maxHeartbeats 32000000
set_option maxRecDepth 100000
namespace Go.Proofs.YtfjdpbbgfjhnlaaGreat.masterKeeps
open Go.ChangeShapes Go.WideShapes Go.ChangeAt Go.RowKit
open Go.ChangeMaps (open_string shut_string)
set_option maxRecDepth 100000 in
theorem contract(H:Type)(enc:TypeId×Value->H)(W:World)(base:Nat)(args:Array Value)(ds gs:List (DataW H))(before:List MemPlace)
  (hval:∀(j:Nat) t v,Tryz.f4.params[j]? =some t->args[j]? =some v->Value.okWide Tryz.prog W .any base t v)
  (hW:DataW.Whole enc Tryz.prog Tryz.f4.params.toList Rows.masterKeepsSpec.vars false W args.toList ds gs before):
  Calls Tryz.prog 4 args W fun e W'=>∃v,e=.returned v/\Rows.masterKeepsSpec.post enc Tryz.prog Tryz.f4 false true false false W args v W':=by
 have hW':=hW
 obtain⟨p,q,hA0,hV,rfl,hfz,hnd⟩:=hW
 have hA:DataW.TrodAll enc Tryz.prog W 0 (fun _=>true) true Tryz.f4.params.toList args.toList ds p:=hA0
 rw[Tryz.params4]at hA hval
 obtain⟨v0,vs0,d0,ds0,p0,q0,hargs,rfl,rfl,h0,r0⟩:=trodAll_cons hA
 obtain⟨v1,vs1,d1,ds1,p1,q1,rfl,rfl,rfl,h1,r1⟩:=trodAll_cons r0
 obtain⟨v2,vs2,d2,ds2,p2,q2,rfl,rfl,rfl,h2,r2⟩:=trodAll_cons r1
 obtain⟨rfl,rfl,rfl⟩:=trodAll_nil r2
 obtain rfl:args=#[v0,v1,v2]:=by cases args;simp_all
 obtain⟨rfl,rfl⟩:=trodVars_none hV
 have hlt:∀x:MemPlace,x∈_->x.block<W.heap.size:=fun x hx=>hW'.lt x hx
 have g0:=h0
 have g1:=h1
 have g2:=h2
 obtain⟨ep0,fl0,A0,c0,l0,rfl,ahF,hcm0,hs0,hi0,hf0⟩:=MO.Vr (hval 0 25 v0 rfl rfl) h0
 obtain⟨A1,c1,l1,rfl,ahG,hcm1,hs1,hg1⟩:=MO.Zu (hval 1 26 v1 rfl rfl) h1
 obtain⟨a2,rfl,rfl,rfl,w2⟩:=open_int Tryz.underlying3 (hval 2 3 v2 rfl rfl) h2
 clear hA0
 refine(dH.VW W ep0 fl0 A0 c0 l0 A1 c1 l1 a2 hs0 ahF hcm0 hf0 hs1 hg1 ahG hcm1 w2).mono fun e W' ⟨he,hb⟩=> ?_
 subst he
 exact⟨_,rfl,TI (pv:=[]) hW' (fun _ _ _=>trodAll_cons_mk (shut_bool Tryz.underlying4 _) trodAll_mk0)
  (fun sp hsp=>(trodAll_cons_mk (DW (by kernel_rfl) (by kernel_rfl) g0 hb hlt (fun x hx=>hsp x hx) (fun x hx=>by first|(simp at hx;done)|simp[hx])) (trodAll_cons_mk (DW (by kernel_rfl) (by kernel_rfl) g1 hb hlt (fun x hx=>hsp x hx) (fun x hx=>by first|(simp at hx;done)|simp[hx])) (trodAll_cons_mk (DW (by kernel_rfl) (by kernel_rfl) g2 hb hlt (fun x hx=>hsp x hx) (fun x hx=>by first|(simp at hx;done)|simp[hx])) trodAll_mk0)))) (fun _ _=>rfl) (by simp)
  hb (ok_one (by kernel_rfl) rfl (okWide_bool_mk Tryz.underlying4 _))⟩
set_option maxRecDepth 100000
theorem an{a b:Bool}(ha:a=true)(hb:b=true):(a&&b)=true:=by rw[ha,hb];rfl
theorem jf0:(Rows.masterKeepsRow.wf (OpenSpec.ofChange Rows.masterKeepsSpec))=true:=by kernel_rfl
theorem jf1:(laidOutB Tryz.pinned.checked.prog)=true:=by kernel_rfl
theorem jf2:(mapsRowed Tryz.pinned.checked.prog)=true:=by kernel_rfl
theorem jf3:(Tryz.f4.params.all (Tryz.pinned.checked.prog.readableRec ·))=true:=by kernel_rfl
theorem jf4:(namedTie Tryz.pinned.checked.prog Rows.masterKeepsRow.named Rows.masterKeepsSpec.vars)=true:=by kernel_rfl
theorem jf5:((Rows.masterKeepsRow.stops==[]))=true:=by kernel_rfl
theorem jf6:((Tryz.pinned.checked.prog.stops==[]))=true:=by kernel_rfl
theorem jf7:((Rows.masterKeepsRow.knobs==[]))=true:=by kernel_rfl
theorem jf8:((Tryz.pinned.checked.prog.stopKnobs==[]))=true:=by kernel_rfl
theorem jf9:((Rows.masterKeepsRow.inPlace==Tryz.pinned.checked.prog.inPlace 4))=true:=by kernel_rfl
theorem ahH:((Rows.masterKeepsRow.unfollowed==Tryz.pinned.checked.prog.unfollowed 4))=true:=by kernel_rfl
theorem ahI:((Rows.masterKeepsRow.recurses==Tryz.pinned.checked.prog.recurses 4))=true:=by kernel_rfl
theorem ahJ:((Rows.masterKeepsRow.named==Tryz.pinned.checked.prog.varsNamed 4))=true:=by kernel_rfl
theorem ahK:((Rows.masterKeepsRow.maps==(Tryz.f4.params.toList++Rows.masterKeepsSpec.plain.varTypes Tryz.pinned.checked.prog).any (Tryz.pinned.checked.prog.mapsRec ·)))=true:=by kernel_rfl
theorem ahL:((Rows.masterKeepsRow.ifaces==(Tryz.f4.params.toList++Rows.masterKeepsSpec.plain.varTypes Tryz.pinned.checked.prog).any (Tryz.pinned.checked.prog.ifacesRec ·)))=true:=by kernel_rfl
theorem ahM:((Rows.masterKeepsRow.mapsOut==Tryz.pinned.checked.prog.mapsAmong Tryz.f4.resultTypes.toList))=true:=by kernel_rfl
theorem ahN:((Rows.masterKeepsRow.loops==(Tryz.f4.params.toList++Rows.masterKeepsSpec.plain.varTypes Tryz.pinned.checked.prog).any (Tryz.pinned.checked.prog.loopsFrom ·)))=true:=by kernel_rfl
theorem ahO:((Rows.masterKeepsRow.wideKeys==(Tryz.f4.params.toList++Rows.masterKeepsSpec.plain.varTypes Tryz.pinned.checked.prog++Tryz.f4.resultTypes.toList).any (Tryz.pinned.checked.prog.wideKeysFrom ·)))=true:=by kernel_rfl
theorem ahP:(Rows.masterKeepsSpec.vars.all (Tryz.pinned.checked.prog.varReadable ·))=true:=by kernel_rfl
theorem ahQ:(Tryz.f4.resultTypes.all (fun t=>Tryz.pinned.checked.prog.readableRec t&&decide (t<Tryz.pinned.checked.prog.types.size)))=true:=by kernel_rfl
theorem ahR:((Rows.masterKeepsRow.ifacesOut==Tryz.f4.resultTypes.toList.any (Tryz.pinned.checked.prog.ifacesRec ·)))=true:=by kernel_rfl
theorem ahS:((Rows.masterKeepsRow.loopsOut==Tryz.f4.resultTypes.toList.any (Tryz.pinned.checked.prog.loopsFrom ·)))=true:=by kernel_rfl
theorem ahT:((Rows.masterKeepsRow.plainKeys==Tryz.pinned.checked.prog.plainKeys))=true:=by kernel_rfl
theorem ahU:(Rows.masterKeepsRow.shortTexts.isNone)=true:=by kernel_rfl
theorem ahV:(Tryz.pinned.checked.prog.stopsHeard)=true:=by kernel_rfl
theorem ahW:(Tryz.pinned.checked.prog.mayEnter)=true:=by kernel_rfl
theorem ahX:((Rows.masterKeepsRow.lifted==Tryz.pinned.checked.prog.liftsFinal))=true:=by kernel_rfl
theorem ahY:((Tryz.pinned.checked.prog.make==some Rows.masterKeepsRow.make))=true:=by kernel_rfl
theorem ahZ:((Rows.masterKeepsRow.kinds==(if Rows.masterKeepsRow.domain.isEmpty then []else Tryz.f4.params.toList.map fun t=>match Tryz.pinned.checked.prog.underlying t with|some (.int k)=>some k|_=>none)))=true:=by kernel_rfl
theorem ah0:((Rows.masterKeepsRow.pinned==Rows.masterKeepsRow.pinnedBy))=true:=by kernel_rfl
theorem ah1:((Rows.masterKeepsRow.veiled==(Tryz.f4.params.toList++Rows.masterKeepsSpec.plain.varTypes Tryz.pinned.checked.prog++Tryz.f4.resultTypes.toList).any (Tryz.pinned.checked.prog.veiledRec ·)))=true:=by kernel_rfl
theorem ah2:(Rows.masterKeepsRow.veiledFits Tryz.pinned.checked.prog Tryz.f4.params.toList (Tryz.f4.params.toList++Rows.masterKeepsSpec.plain.varTypes Tryz.pinned.checked.prog++Tryz.f4.resultTypes.toList))=true:=by kernel_rfl
theorem closed:joinedFacts Tryz.pinned.checked.prog 4 Tryz.f4 Rows.masterKeepsSpec Rows.masterKeepsRow=true:=(an (an (an (an (an (an (an (an (an (an (an (an (an (an (an (an (an (an (an (an (an (an (an (an (an (an (an (an (an (an (an jf0 jf1) jf2) jf3) jf4) jf5) jf6) jf7) jf8) jf9) ahH) ahI) ahJ) ahK) ahL) ahM) ahN) ahO) ahP) ahQ) ahR) ahS) ahT) ahU) ahV) ahW) ahX) ahY) ahZ) ah0) ah1) ah2)
set_option maxRecDepth 100000 in
theorem lifted(os:Os)(started:os.Started)(H:Type)(enc:TypeId×Value->H):
  ReturnsInHanded {} Tryz.checked os 4 .any (Rows.masterKeepsSpec.pre6 enc Tryz.prog Tryz.f4 Rows.masterKeepsRow.domain false) (Rows.masterKeepsSpec.post enc Tryz.prog Tryz.f4 false true false false):=by
 refine returnsInHanded_of_change (C:=Tryz.checked) own started (by kernel_rfl) Tryz.func4
  (ChangeSpec.witness6 (enc:=enc) (C:=Tryz.checked) false ⟨#[],#[.agg #[.int .i64 0,.slice none 0 0,.int .u64 0],.slice none 0 0,.int .i64 0],[]⟩ 8 (by kernel_rfl) (by kernel_rfl) (by kernel_rfl) (by kernel_rfl)) ?_
 intro W base args ds gs before hval hW _ _
 exact contract H enc W base args ds gs before hval hW
set_option maxRecDepth 100000 in
theorem proved:Rows.MasterKeepsSaid:=
 OpenClaim.holds_of_wide 4 Tryz.f4 rfl rfl rfl rfl rfl rfl rfl ⟨rfl,rfl,rfl,rfl,rfl⟩ rfl rfl rfl rfl rfl (by kernel_rfl) Tryz.func4 closed
  (of_decide_eq_true (by kernel_rfl)) (by unfold Func.isWrapper;first|(rw[if_pos (by decide+kernel)];kernel_rfl)|(rw[if_neg (by decide+kernel)];exact⟨rfl,rfl⟩))
  (fun os started H enc _=>lifted os started H enc)
end Go.Proofs.YtfjdpbbgfjhnlaaGreat.masterKeeps

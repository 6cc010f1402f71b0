/- For every number, ask and text ClientZero returns true: a client that nobody made does nothing. -/
import Derived.Test.YtgbigpdiacjbgaaGreatCZ29
set_option linter.unusedSimpArgs false
set_option linter.unusedVariables false
set_option maxHeartbeats 32000000
set_option maxRecDepth 100000
namespace Go.Proofs.YtgbigpdiacjbgaaGreat.clientZero
open Go.ChangeShapes Go.WideShapes Go.ChangeAt Go.RowKit
open Go.ChangeMaps (open_string shut_string)
set_option maxRecDepth 100000 in
theorem contract(H:Type)(enc:TypeId×Value->H)(W:World)(base:Nat)(args:Array Value)(ds gs:List (DataW H))(before:List MemPlace)
  (hval:∀(j:Nat) t v,Tryz.f3.params[j]? =some t->args[j]? =some v->Value.okWide Tryz.prog W .any base t v)
  (hW:DataW.Whole enc Tryz.prog Tryz.f3.params.toList Rows.clientZeroSpec.vars false W args.toList ds gs before):
  Calls Tryz.prog 3 args W fun e W'=>∃v,e=.returned v/\Rows.clientZeroSpec.post enc Tryz.prog Tryz.f3 false true false false W args v W':=by
 have hW':=hW;obtain⟨p,q,hA0,hV,rfl,hfz,hnd⟩:=hW;have hA:DataW.TrodAll enc Tryz.prog W 0 (fun _=>true) true Tryz.f3.params.toList args.toList ds p:=hA0;rw[Tryz.params3]at hA hval;obtain⟨v0,GM,d0,ds0,p0,q0,hargs,rfl,rfl,h0,r0⟩:=trodAll_cons hA;obtain⟨v1,vs1,d1,ds1,p1,q1,rfl,rfl,rfl,h1,r1⟩:=trodAll_cons r0;obtain⟨v2,vs2,d2,ds2,p2,q2,rfl,rfl,rfl,h2,r2⟩:=trodAll_cons r1;obtain⟨rfl,rfl,rfl⟩:=trodAll_nil r2;obtain rfl:args=#[v0,v1,v2]:=by cases args;simp_all
 obtain⟨rfl,rfl⟩:=trodVars_none hV;have hlt:∀x:MemPlace,x∈_->x.block<W.heap.size:=fun x hx=>hW'.lt x hx;have g0:=h0;have g1:=h1;have g2:=h2;obtain⟨a0,rfl,rfl,rfl,w0⟩:=open_int Tryz.underlying3 (hval 0 3 v0 rfl rfl) h0;obtain⟨x1,rfl,hg1⟩:=Ask.xQ (hval 1 25 v1 rfl rfl) h1;obtain⟨a2,rfl,rfl,rfl,w2⟩:=open_string Tryz.underlying9 (hval 2 9 v2 rfl rfl) h2;clear hA0;refine(Cli.xu W a0 x1 hg1 a2 w2).mono fun e W' ⟨he,hb⟩=> ?_;subst he
 exact⟨_,rfl,sZ (pv:=[]) hW' (fun _ _ _=>trodAll_cons_mk (shut_bool Tryz.underlying4 _) trodAll_mk0)
  (fun sp hsp=>(trodAll_cons_mk (kU (by kernel_rfl) (by kernel_rfl) g0 hb hlt (fun x hx=>hsp x hx) (fun x hx=>by first|(simp at hx;done)|simp[hx])) (trodAll_cons_mk (kU (by kernel_rfl) (by kernel_rfl) g1 hb hlt (fun x hx=>hsp x hx) (fun x hx=>by first|(simp at hx;done)|simp[hx])) (trodAll_cons_mk (kU (by kernel_rfl) (by kernel_rfl) g2 hb hlt (fun x hx=>hsp x hx) (fun x hx=>by first|(simp at hx;done)|simp[hx])) trodAll_mk0)))) (fun _ _=>rfl) (by simp)
  hb (ok_one (by kernel_rfl) rfl (okWide_bool_mk Tryz.underlying4 _))⟩
theorem an{a b:Bool}(ha:a=true)(hb:b=true):(a&&b)=true:=by rw[ha,hb];rfl
theorem Gf:(Rows.clientZeroRow.wf (OpenSpec.ofChange Rows.clientZeroSpec))=true:=by kernel_rfl
theorem Gg:(laidOutB Tryz.pinned.checked.prog)=true:=by kernel_rfl
theorem Gh:(mapsRowed Tryz.pinned.checked.prog)=true:=by kernel_rfl
theorem Gi:(Tryz.f3.params.all (Tryz.pinned.checked.prog.readableRec ·))=true:=by kernel_rfl
theorem Gj:(namedTie Tryz.pinned.checked.prog Rows.clientZeroRow.named Rows.clientZeroSpec.vars)=true:=by kernel_rfl
theorem Gl:((Rows.clientZeroRow.stops==[]))=true:=by kernel_rfl
theorem Gm:((Tryz.pinned.checked.prog.stops==[]))=true:=by kernel_rfl
theorem Gn:((Rows.clientZeroRow.knobs==[]))=true:=by kernel_rfl
theorem Gp:((Tryz.pinned.checked.prog.stopKnobs==[]))=true:=by kernel_rfl
theorem Gq:((Rows.clientZeroRow.inPlace==Tryz.pinned.checked.prog.inPlace 3))=true:=by kernel_rfl
theorem Ez:((Rows.clientZeroRow.unfollowed==Tryz.pinned.checked.prog.unfollowed 3))=true:=by kernel_rfl
theorem EC:((Rows.clientZeroRow.recurses==Tryz.pinned.checked.prog.recurses 3))=true:=by kernel_rfl
theorem ED:((Rows.clientZeroRow.named==Tryz.pinned.checked.prog.varsNamed 3))=true:=by kernel_rfl
theorem EE:((Rows.clientZeroRow.maps==(Tryz.f3.params.toList++Rows.clientZeroSpec.plain.varTypes Tryz.pinned.checked.prog).any (Tryz.pinned.checked.prog.mapsRec ·)))=true:=by kernel_rfl
theorem EF:((Rows.clientZeroRow.ifaces==(Tryz.f3.params.toList++Rows.clientZeroSpec.plain.varTypes Tryz.pinned.checked.prog).any (Tryz.pinned.checked.prog.ifacesRec ·)))=true:=by kernel_rfl
theorem EG:((Rows.clientZeroRow.mapsOut==Tryz.pinned.checked.prog.mapsAmong Tryz.f3.resultTypes.toList))=true:=by kernel_rfl
theorem EH:((Rows.clientZeroRow.loops==(Tryz.f3.params.toList++Rows.clientZeroSpec.plain.varTypes Tryz.pinned.checked.prog).any (Tryz.pinned.checked.prog.loopsFrom ·)))=true:=by kernel_rfl
theorem EI:((Rows.clientZeroRow.wideKeys==(Tryz.f3.params.toList++Rows.clientZeroSpec.plain.varTypes Tryz.pinned.checked.prog++Tryz.f3.resultTypes.toList).any (Tryz.pinned.checked.prog.wideKeysFrom ·)))=true:=by kernel_rfl
theorem EJ:(Rows.clientZeroSpec.vars.all (Tryz.pinned.checked.prog.varReadable ·))=true:=by kernel_rfl
theorem EK:(Tryz.f3.resultTypes.all (fun t=>Tryz.pinned.checked.prog.readableRec t&&decide (t<Tryz.pinned.checked.prog.types.size)))=true:=by kernel_rfl
theorem EL:((Rows.clientZeroRow.ifacesOut==Tryz.f3.resultTypes.toList.any (Tryz.pinned.checked.prog.ifacesRec ·)))=true:=by kernel_rfl
theorem EM:((Rows.clientZeroRow.loopsOut==Tryz.f3.resultTypes.toList.any (Tryz.pinned.checked.prog.loopsFrom ·)))=true:=by kernel_rfl
theorem EN:((Rows.clientZeroRow.plainKeys==Tryz.pinned.checked.prog.plainKeys))=true:=by kernel_rfl
theorem EO:(Rows.clientZeroRow.shortTexts.isNone)=true:=by kernel_rfl
theorem EP:(Tryz.pinned.checked.prog.stopsHeard)=true:=by kernel_rfl
theorem ER:(Tryz.pinned.checked.prog.mayEnter)=true:=by kernel_rfl
theorem ES:((Rows.clientZeroRow.lifted==Tryz.pinned.checked.prog.liftsFinal))=true:=by kernel_rfl
theorem ET:((Tryz.pinned.checked.prog.make==some Rows.clientZeroRow.make))=true:=by kernel_rfl
theorem EU:((Rows.clientZeroRow.kinds==(if Rows.clientZeroRow.domain.isEmpty then []else Tryz.f3.params.toList.map fun t=>match Tryz.pinned.checked.prog.underlying t with|some (.int k)=>some k|_=>none)))=true:=by kernel_rfl
theorem EV:((Rows.clientZeroRow.pinned==Rows.clientZeroRow.pinnedBy))=true:=by kernel_rfl
theorem EW:((Rows.clientZeroRow.veiled==(Tryz.f3.params.toList++Rows.clientZeroSpec.plain.varTypes Tryz.pinned.checked.prog++Tryz.f3.resultTypes.toList).any (Tryz.pinned.checked.prog.veiledRec ·)))=true:=by kernel_rfl
theorem EX:(Rows.clientZeroRow.veiledFits Tryz.pinned.checked.prog Tryz.f3.params.toList (Tryz.f3.params.toList++Rows.clientZeroSpec.plain.varTypes Tryz.pinned.checked.prog++Tryz.f3.resultTypes.toList))=true:=by kernel_rfl
theorem closed:joinedFacts Tryz.pinned.checked.prog 3 Tryz.f3 Rows.clientZeroSpec Rows.clientZeroRow=true:=(an (an (an (an (an (an (an (an (an (an (an (an (an (an (an (an (an (an (an (an (an (an (an (an (an (an (an (an (an (an (an Gf Gg) Gh) Gi) Gj) Gl) Gm) Gn) Gp) Gq) Ez) EC) ED) EE) EF) EG) EH) EI) EJ) EK) EL) EM) EN) EO) EP) ER) ES) ET) EU) EV) EW) EX)
set_option maxRecDepth 100000 in
theorem lifted(os:Os)(started:os.Started)(H:Type)(enc:TypeId×Value->H):
  ReturnsInHanded {} Tryz.checked os 3 .any (Rows.clientZeroSpec.pre6 enc Tryz.prog Tryz.f3 Rows.clientZeroRow.domain false) (Rows.clientZeroSpec.post enc Tryz.prog Tryz.f3 false true false false):=by
 refine returnsInHanded_of_change (C:=Tryz.checked) own started (by kernel_rfl) Tryz.func3
  (ChangeSpec.witness6 (enc:=enc) (C:=Tryz.checked) false ⟨#[],#[.int .i64 0,.agg #[.int .i64 0,.int .i64 0,.string .empty,.string .empty,.int .u64 0,.int .i64 0,.slice none 0 0],.string .empty],[]⟩ 8 (by kernel_rfl) (by kernel_rfl) (by kernel_rfl) (by kernel_rfl)) ?_
 intro W base args ds gs before hval hW _ _;exact contract H enc W base args ds gs before hval hW
set_option maxRecDepth 100000 in
theorem proved:Rows.ClientZeroSaid:=
 OpenClaim.holds_of_wide 3 Tryz.f3 rfl rfl rfl rfl rfl rfl rfl ⟨rfl,rfl,rfl,rfl,rfl⟩ rfl rfl rfl rfl rfl (by kernel_rfl) Tryz.func3 closed
  (of_decide_eq_true (by kernel_rfl)) (by unfold Func.isWrapper;first|(rw[if_pos (by decide+kernel)];kernel_rfl)|(rw[if_neg (by decide+kernel)];exact⟨rfl,rfl⟩))
  (fun os started H enc _=>lifted os started H enc)

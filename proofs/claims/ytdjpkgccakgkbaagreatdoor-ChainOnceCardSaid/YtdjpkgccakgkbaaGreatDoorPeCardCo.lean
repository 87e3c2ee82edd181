/- The statement ChainOnce, proved: the sections of a chain begin at different offsets, the first at the requested one, and there are at most MaxChain, for every string and offset. No condition but the card's own: the listed tables are as the program's text lays them. -/
import Derived.Test.YtdjpkgccakgkbaaGreatDoorPeaf
import Derived.Test.YtdjpkgccakgkbaaGreatDoorPeCvW
import Derived.Test.YtdjpkgccakgkbaaGreatDoorCards
import Derived.Test.YtdjpkgccakgkbaaGreatDoorTie
import Derived.Deep.DeepWitnessRowRef
set_option linter.all false
set_option maxRecDepth 100000
set_option maxHeartbeats 8000000
namespace Go.Proofs.YtdjpkgccakgkbaaGreatDoor.chainOnce
open Go.Proofs.Tryz
open Go.ChangeShapes Go.WideShapes Go.ChangeAt Go.RowKit Go.ChangeMaps
theorem bDL{n:Int}(h:(Lit.int .i64 n).wf=true):n<=9223372036854775807:=by
 simp[Lit.wf,IntKind.min,IntKind.max,IntKind.bits,IntKind.signed] at h;omega
theorem contract(H:Type)(enc:TypeId×Value->H)(W:World)(base:Nat)(args:Array Value)(ds gs:List (DataW H))(before:List MemPlace)
 (hval:∀(j:Nat) t v,Tryz.f3.params[j]?=some t->args[j]?=some v->Value.okWide prog W .any base t v)
 (hW:DataW.Whole enc prog Tryz.f3.params.toList Rows.chainOnceSpec.vars false W args.toList ds gs before)
 (hsz:(DataW.weightsEach prog (Tryz.f3.params.toList++(OpenSpec.ofChange Rows.chainOnceSpec).bare.plain.varTypes prog) (ds++gs)).all (·<=reachBytes)=true)
 (hL:laidMet prog Rows.chainOnceRow.laid W)
 (hsh:W.ShapedOpen prog) :
 Calls prog 3 args W fun e W'=>∃v,e=.returned v/\Rows.chainOnceSpec.post enc prog Tryz.f3 false true false false W args v W':=by
 have hW':=hW;obtain⟨p,q,hA0,hV,rfl,hfz,hnd⟩:=hW;have hA:DataW.TrodAll enc prog W 0 (fun _=>true) true Tryz.f3.params.toList args.toList ds p:=hA0;rw[params3] at hA hval hsz;obtain⟨v0,vs0,d0,ds0,p0,q0,hargs,rfl,rfl,h0,r0⟩:=trodAll_cons hA;obtain⟨v1,vs1,d1,ds1,p1,q1,rfl,rfl,rfl,h1,r1⟩:=trodAll_cons r0;obtain⟨rfl,rfl,rfl⟩:=trodAll_nil r1;obtain rfl:args=#[v0,v1]:=by cases args;simp_all
 obtain⟨rfl,rfl⟩:=trodVars_none hV;obtain⟨s,rfl,rfl,rfl,ws⟩:=open_string underlying9 (hval 0 9 v0 rfl rfl) h0;obtain⟨c,rfl,rfl,rfl,wc⟩:=open_int underlying3 (hval 1 3 v1 rfl rfl) h1;obtain⟨m,hm⟩:=bDK hsh;clear hA0;simp only[List.append_nil] at hW';refine(aCR W s c wc (bDL wc) m hm (aZU hL)).mono fun e W' ⟨he,hb⟩=>?_
 subst he;exact⟨_,rfl,aLF (pa:=[]) (pv:=[]) hW' (fun _ _ _=>trodAll_cons_mk (shut_bool underlying4 _) trodAll_mk0) (fun _ _=>trodAll_cons_mk (shut_string underlying9 ws) (trodAll_cons_mk (shut_int underlying3 wc) trodAll_mk0)) (fun _ _=>rfl) rfl
  hb (ok_one kR rfl (okWide_bool_mk underlying4 _))⟩
theorem laid_met(os:Os):laidMet prog Rows.chainOnceRow.laid ((laidWorld os).forCall (fun _ _=>0) ⟨#[],#[.string ⟨#[]⟩,.int .i64 0],[]⟩).memory :=
 laidMet_of_run' 8 kR kR
theorem reads(os:Os){H:Type}(enc:TypeId×Value->H):∃places,DataW.whole enc prog ((laidWorld os).forCall (fun _ _=>0) ⟨#[],#[.string ⟨#[]⟩,.int .i64 0],[]⟩).memory Tryz.f3.params.toList Rows.chainOnceSpec.vars false #[Value.string ⟨#[]⟩,Value.int .i64 0].toList 8=some ([.lit (.string []),.lit (.int .i64 0)],[],places) :=
 ⟨[],kR⟩
theorem lifted(os:Os)(started:os.Started)(H:Type)(enc:TypeId×Value->H)(F:Stop.Interp) :
 ReturnsInHanded {} Tryz.checked os 3 .any ((OpenSpec.ofChange Rows.chainOnceSpec).preRow enc prog Tryz.f3 Rows.chainOnceRow.domain false Rows.chainOnceRow.laid) (((OpenSpec.ofChange Rows.chainOnceSpec).at F).post enc prog Tryz.f3 false true false false):=by
 obtain⟨places,hx⟩:=reads os enc;refine returnsInHanded_of_row (C:=Tryz.checked) (s:=OpenSpec.ofChange Rows.chainOnceSpec) ownK started kR func3
  (witness_row_atRef (enc:=enc) (C:=Tryz.checked) false (laidWorld os) #[.string ⟨#[]⟩,.int .i64 0] rfl kR kR kR
   (OpenSpec.preRow_of_cond 8 hx kR (fun k hk=>by cases hk) kR (laid_met os))) ?_
 intro W base args ds gs before hval hW _ _ hsz hL hsh _;exact contract H enc W base args ds gs before hval hW hsz hL hsh
theorem said:Rows.ChainOnceSaid :=
 OpenClaim.holds_of_cond 3 Tryz.f3 rfl rfl rfl rfl rfl rfl rfl ⟨rfl,rfl,rfl,rfl,rfl⟩ rfl rfl rfl rfl rfl kR func3 closed
  (of_decide_eq_true kR) (by unfold Func.isWrapper;first|(rw[bGV q8];kernel_rfl)|(rw[bGU q8];exact⟨rfl,rfl⟩))
  (fun os started H enc _ F=>by rw[OpenClaim.pre_eq_preRow];exact lifted os started H enc F)
theorem plain (f : FuncId) (fn : Func) (hf : Tryz.pinned.checked.prog.funcNamed "foliant/foliantlaw22.ChainOnce" = some f) (hfn : Tryz.pinned.checked.prog.funcs[f]? = some fn) :
 true=Tryz.pinned.checked.prog.looks []/\∀(j:Nat) t,fn.params[j]?=some t->Tryz.pinned.checked.prog.wantsStandIn t=false:=by
 obtain rfl : f = 3 := Option.some.inj ((show prog.funcNamed "foliant/foliantlaw22.ChainOnce" = some 3 from kR).symm.trans hf) |>.symm
 obtain rfl:fn=Tryz.f3:=(Option.some.inj (func3.symm.trans hfn)).symm;refine⟨kR,fun j t ht=>?_⟩;rw[params3] at ht;have ht':=Array.mem_of_getElem? ht;simp only[List.mem_toArray,List.mem_cons,List.not_mem_nil,or_false] at ht';rcases ht' with rfl|rfl
 ·exact(show prog.wantsStandIn 9=false from kR)
 ·exact(show prog.wantsStandIn 3=false from kR)
theorem card:Rows.ChainOnceCardSaid :=
 Claim7.holds_tied_plain_at .later [] _ _ _ _ said (fun _ h=>q96) kR (fun _ h=>q96) chainOnce_row_tie rfl ⟨rfl,rfl⟩ kR rfl plain kR

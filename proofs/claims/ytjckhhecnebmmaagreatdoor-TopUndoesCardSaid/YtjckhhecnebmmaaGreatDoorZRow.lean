/- The law TopUndoes of the given program: for every input it returns true, and its arguments read afterwards as before; the three listed variables are tied to the program's text. No condition. -/
import Derived.Test.YtjckhhecnebmmaaGreatDoorCards
import Derived.Test.YtjckhhecnebmmaaGreatDoorTie
import Derived.Test.YtjckhhecnebmmaaGreatDoorZ37
import Derived.WalkKit
import Derived.ProofKit
import Derived.OpenShut
import Derived.Deep.DeepHandedRow
import Derived.Lib.LaidTab
import Derived.Stop.LaidErr
import Derived.Carry
set_option linter.unusedVariables false
set_option linter.unusedSimpArgs false
section
namespace Go.Proofs.YtjckhhecnebmmaaGreatDoor.topUndoes
open Go.ChangeShapes Go.WideShapes Go.ChangeAt Go.RowKit Go.Proofs.YtjckhhecnebmmaaGreatDoor.TU
set_option linter.unusedVariables false
theorem own:ownKnob Tryz.prog.godebug=none:=by kernel_rfl
theorem laidOut:laidOutB Tryz.prog=true:=by kernel_rfl
theorem gTab:Tryz.prog.globalNamed "internal/strconv.uint64pow10"=some 0:=by kernel_rfl
theorem gTabType:(Tryz.prog.globals[0]?).map (·.type)=some 153:=by kernel_rfl
theorem cells153:Tryz.prog.cellsOf 153=20:=by kernel_rfl
theorem powTab:(Rows.laid_internal_strconv_uint64pow10:DataW Unit)=Lib.tabData .u64 Lib.pow10Tab:=by kernel_rfl
theorem laidPlain {W:World} (h:laidMetH Tryz.prog Rows.topUndoesRow.laid W):laidMet Tryz.prog [("math/bits.deBruijn32tab",Rows.laid_math_bits_deBruijn32tab),("math/bits.deBruijn64tab",Rows.laid_math_bits_deBruijn64tab),("internal/strconv.uint64pow10",Rows.laid_internal_strconv_uint64pow10)] W:=h
theorem table {W:World} (h:laidMetH Tryz.prog Rows.topUndoesRow.laid W):Lib.TabIs Tryz.prog W "internal/strconv.uint64pow10" .u64 Lib.pow10Tab:=by
 have h2:=(laidMet.tail (laidMet.tail (laidPlain h)))
 rw [powTab]at h2
 exact Lib.tabIs_of_head (rest:=[]) gTab gTabType Tryz.underlying153 Tryz.underlying32 c32 cells153 h2
set_option maxRecDepth 100000 in
theorem contract (H:Type) (enc:TypeId × Value→H) (W:World) (base:Nat) (args:Array Value) (ds gs:List (DataW H)) (before:List MemPlace)
  (hval:∀ (j:Nat) t v,Tryz.f3.params[j]?=some t→args[j]?=some v→Value.okWide Tryz.prog W .any base t v)
  (hW:DataW.Whole enc Tryz.prog Tryz.f3.params.toList Rows.topUndoesSpec.vars false W args.toList ds gs before) (hL:laidMetH Tryz.prog Rows.topUndoesRow.laid W) :
  Calls Tryz.prog 3 args W fun e W'=>∃ v,e=.returned v∧Rows.topUndoesSpec.post enc Tryz.prog Tryz.f3 false true false false W args v W':=by
 have hW':=hW
 obtain ⟨p,q,hA0,hV,rfl,hfz,hnd⟩:=hW
 have hA:DataW.TrodAll enc Tryz.prog W 0 (fun _=>true) true Tryz.f3.params.toList args.toList ds p:=hA0
 rw [Tryz.params3]at hA hval
 obtain ⟨v0,vs0,d0,ds0,p0,q0,hargs,rfl,rfl,h0,r0⟩:=trodAll_cons hA
 obtain ⟨v1,vs1,d1,ds1,p1,q1,rfl,rfl,rfl,h1,r1⟩:=trodAll_cons r0
 obtain ⟨v2,vs2,d2,ds2,p2,q2,rfl,rfl,rfl,h2,r2⟩:=trodAll_cons r1
 obtain ⟨rfl,rfl,rfl⟩:=trodAll_nil r2
 obtain rfl:args=#[v0,v1,v2]:=by cases args;simp_all
 obtain ⟨rfl,rfl⟩:=trodVars_none hV
 have k0:=h0
 have k1:=h1
 have k2:=h2
 have lt0:∀ x∈p0,x.block < W.heap.size:=by obtain ⟨m,hm⟩:=k0;exact DataW.trod_lt m _ _ _ hm
 have lt1:∀ x∈p1,x.block < W.heap.size:=by obtain ⟨m,hm⟩:=k1;exact DataW.trod_lt m _ _ _ hm
 have lt2:∀ x∈p2,x.block < W.heap.size:=by obtain ⟨m,hm⟩:=k2;exact DataW.trod_lt m _ _ _ hm
 obtain ⟨A0,l0,c0,n0,rfl,hc0,he0,hv0⟩:=arg_events (hval 0 22 v0 rfl rfl) h0
 obtain ⟨A1,l1,c1,n1,rfl,hc1,he1,hv1⟩:=arg_events (hval 1 22 v1 rfl rfl) h1
 obtain ⟨A2,l2,c2,n2,rfl,hc2,he2,hv2⟩:=arg_events (hval 2 22 v2 rfl rfl) h2
 have G:Gl W.heap.size W (fun _=>0):=⟨Lib.tabBelow_of_tabIs (table hL),Nat.le_refl _,fun _ _=>rfl⟩
 clear hA0
 refine (top_all G he0 he1 he2 hc0 hc1 hc2 hv0 hv1 hv2).mono fun e W' ⟨he,bel⟩=>?_
 subst he
 exact ⟨_,rfl,_,_,_,[],_,[],hW',trodAll_mk1 (shut_bool Tryz.underlying4 _),(trodAll_cons_mk (Below.trod laidOut (by kernel_rfl) (of_decide_eq_true (by kernel_rfl)) k0 bel lt0) (trodAll_cons_mk (Below.trod laidOut (by kernel_rfl) (of_decide_eq_true (by kernel_rfl)) k1 bel lt1) (trodAll_cons_mk (Below.trod laidOut (by kernel_rfl) (of_decide_eq_true (by kernel_rfl)) k2 bel lt2) trodAll_mk0))),rfl,bel.frame _,fun h=>by cases h⟩
def flatD:DataW Unit→Array Value
 | .agg l=>(l.filterMap (fun d=>match d with
   | .lit (.int k n)=>some (Value.int k n)
   | _=>none)).toArray
 | _=>#[]
def putD (d:DataW Unit) (o:Obj):Obj:=match o with
 | .cells _ t frozen=>.cells (flatD d) t frozen
 | o=>o
def nils:Array Value:=#[.slice none 0 0,.slice none 0 0,.slice none 0 0]
noncomputable def laidWorld (os:Os):World :=
 { World.holding Tryz.prog os ⟨#[],#[],[]⟩with heap:=(((World.holding Tryz.prog os ⟨#[],#[],[]⟩).heap.modify 0 (putD Rows.laid_internal_strconv_uint64pow10)).modify 1 (putD Rows.laid_math_bits_deBruijn32tab)).modify 2 (putD Rows.laid_math_bits_deBruijn64tab) }
theorem laid_met (os:Os):laidMet Tryz.prog Rows.topUndoesRow.laid ((laidWorld os).forCall (fun _ _=>0) ⟨#[],nils,[]⟩).memory :=
 laidMet_of_run' 8 (by kernel_rfl) (by kernel_rfl)
theorem reads (os:Os) {H:Type} (enc:TypeId × Value→H):∃ places,DataW.whole enc Tryz.prog ((laidWorld os).forCall (fun _ _=>0) ⟨#[],nils,[]⟩).memory Tryz.f3.params.toList Rows.topUndoesSpec.vars false nils.toList 8=some ([.nil,.nil,.nil],[],places) :=
 ⟨[],by kernel_rfl⟩
set_option maxRecDepth 100000 in
theorem lifted (os:Os) (started:os.Started) (H:Type) (enc:TypeId × Value→H) (F:Stop.Interp) :
  ReturnsInHanded {} Tryz.checked os 3 .any ((OpenSpec.ofChange Rows.topUndoesSpec).preRow enc Tryz.prog Tryz.f3 Rows.topUndoesRow.domain false Rows.topUndoesRow.laid) (((OpenSpec.ofChange Rows.topUndoesSpec).at F).post enc Tryz.prog Tryz.f3 false true false false):=by
 obtain ⟨places,hx⟩:=reads os enc
 refine returnsInHanded_of_row (C:=Tryz.checked) (s:=OpenSpec.ofChange Rows.topUndoesSpec) own started (by kernel_rfl) Tryz.func3
  (witness_row_at (enc:=enc) (C:=Tryz.checked) false (laidWorld os) nils rfl (by kernel_rfl) (by kernel_rfl) (by kernel_rfl)
   (OpenSpec.preRow_of_cond 8 hx (by kernel_rfl) (fun k hk=>by cases hk) (by kernel_rfl) (laid_met os))) ?_
 intro W base args ds gs before hval hW _ _ _ hL _ _
 exact contract H enc W base args ds gs before hval hW hL
theorem said:Rows.TopUndoesSaid :=
 OpenClaim.holds_of_cond 3 Tryz.f3 rfl rfl rfl rfl rfl rfl rfl ⟨rfl,rfl,rfl,rfl,rfl⟩ rfl rfl rfl rfl rfl (by kernel_rfl) Tryz.func3 (by kernel_rfl)
  (of_decide_eq_true (by kernel_rfl)) (by unfold Func.isWrapper;first | (rw [if_pos (by decide +kernel)];kernel_rfl) | (rw [if_neg (by decide +kernel)];exact ⟨rfl,rfl⟩))
  (fun os started H enc _ F=>by rw [OpenClaim.pre_eq_preRow];exact lifted os started H enc F)
theorem plain (f:FuncId) (fn:Func) (hf:Tryz.pinned.checked.prog.funcNamed "saturate/saturatetop.TopUndoes"=some f) (hfn:Tryz.pinned.checked.prog.funcs[f]?=some fn) :
  false=Tryz.pinned.checked.prog.looks []∧∀ (j:Nat) t,fn.params[j]?=some t→Tryz.pinned.checked.prog.wantsStandIn t=false:=by
 obtain rfl:f=3:=Option.some.inj ((show Tryz.prog.funcNamed "saturate/saturatetop.TopUndoes"=some 3 by kernel_rfl).symm.trans hf) |>.symm
 obtain rfl:fn=Tryz.f3:=(Option.some.inj (Tryz.func3.symm.trans hfn)).symm
 refine ⟨by kernel_rfl,fun j t ht=>?_⟩
 rw [Tryz.params3]at ht
 obtain rfl:t=22:=by have:=Array.mem_of_getElem? ht;simpa using this
 exact (show Tryz.prog.wantsStandIn 22=false by kernel_rfl)
theorem card:Rows.TopUndoesCardSaid :=
 Claim7.holds_tied_plain_at .later [] _ _ _ _ said (fun _ h=>by cases h) (by kernel_rfl) (fun _ h=>by cases h) topUndoes_row_tie rfl ⟨rfl,rfl⟩ (by kernel_rfl) rfl plain (by kernel_rfl)
#print axioms card
end Go.Proofs.YtjckhhecnebmmaaGreatDoor.topUndoes
namespace Go.Proofs.YtjckhhecnebmmaaGreatDoor
theorem topUndoes_card:Rows.TopUndoesCardSaid:=topUndoes.card
end Go.Proofs.YtjckhhecnebmmaaGreatDoor
end

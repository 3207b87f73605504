/- Steps towards the law TopUndoes; words printed by the kit, and printed texts, are cut to what is used, and spaces are left out. No condition. -/
import Derived.Test.YtjckhhecnebmmaaGreatDoorZ33
set_option linter.unusedVariables false
set_option linter.unusedSimpArgs false
section
namespace Go.Proofs.YtjckhhecnebmmaaGreatDoor.TU
open Go.RowKit Go.Proofs.YtjckhhecnebmmaaGreatDoorW.PrintWords Go.Proofs.YtjckhhecnebmmaaGreatDoorW.PrintLast Go.Proofs.YtjckhhecnebmmaaGreatDoorW.PrintMore Go.Proofs.YtjckhhecnebmmaaGreatDoor.QAll
attribute [local go_sem] max2_int min2_int max_two min_two max_three min_three max_four min_four
set_option linter.unusedVariables false
theorem Inv.fine {S:St} (h:Inv S) (hN:S.N≤1152921504606846000):Fine S:=by
 have c:=h.ic
 have hl:=c.len
 have htl:=c.tl
 have htd:=c.todo
 refine ⟨c.hp,c.hk,c.hu,by omega,by omega,c.hL,c.well,by omega,fun u hu=>?_,c.no,c.ko,fun k id hk=>?_,hN,fun u hu x hx=>(c.us u hu).2 x hx⟩
 ·have:=(c.us u hu).1;omega
 ·obtain ⟨h0,n,hn,_⟩:=h.it.c3 k id hk
  have:=getElem_lt hn
  rw [c.hk]at this
  exact ⟨h0,by omega⟩
theorem par_in {S:St} (h:IC S) (id:Int):∀ x∈par S id,0≤x∧x < S.ns.length:=by
 intro x hx
 have h1:=sortL_mem _ x hx
 unfold parRaw at h1
 rcases foldU_mem h1 with h2 | h2
 ·cases h2
 ·obtain ⟨m,_,hm⟩:=List.mem_flatMap.1 h2
  have:S.us.getD m.toNat []∈S.us∨S.us.getD m.toNat []=[]:=by
   rw [List.getD_eq_getElem?_getD]
   cases hq:S.us[m.toNat]? with
   | none=>right;rfl
   | some u=>left;exact List.mem_of_getElem? hq
  rcases this with h3 | h3
  ·exact (h.us _ h3).2 x hm
  ·rw [h3]at hm;cases hm
theorem Step.trans {S:St} {r:St × Int} {c:Nat} (h:Step S r c) {q:St × Int} {d:Nat} (k:Step r.1 q d):Step S (q.1,r.2+q.2) (c+d) :=
 ⟨k.inv,h.kept.trans k.kept,k.dirty.trans h.dirty,k.sum.trans h.sum,by have h1:=h.joins;have h2:=k.joins;show r.2+q.2+(roots q.1.p:Int)=_;omega,by have h1:=h.N;have h2:=k.N;show q.1.N≤_;omega⟩
theorem reps_ok:∀ (l:List Int) (S:St),Inv S→(∀ x∈l,0≤x∧x < S.ns.length)→S.N+l.length≤1152921504606846000→RepsOk S l∧Step S (reps S l) l.length:=by
 intro l
 induction l with
 | nil=>intro S h _ hN;exact ⟨h.fine hN,h,Kept.refl S,rfl,rfl,by show (0:Int)+_=_;simp [reps],Nat.le_refl _⟩
 | cons x l ih =>
  intro S h hl hN
  rw [List.length_cons]at hN
  have hx:=hl x (List.mem_cons_self ..)
  have h1:=repair_step h hx
  have hns:=h1.kept.ns
  have hN1:=h1.N
  obtain ⟨h2,h3⟩:=ih (repairS S x).1 h1.inv (fun y hy=>by rw [hns];exact hl y (List.mem_cons_of_mem _ hy)) (by omega)
  refine ⟨⟨h.fine (by omega),hx.1,hx.2,h2⟩,?_⟩
  have:=h1.trans h3
  rw [List.length_cons,Nat.add_comm]
  exact this
theorem reps_sim:∀ (l:List Int) (S T:St),Sim S T→Inv S→Inv T→(∀ x∈l,0≤x∧x < S.ns.length)→Sim (reps S l).1 (reps T l).1∧(reps S l).2=(reps T l).2:=by
 intro l
 induction l with
 | nil=>intro S T h _ _ _;exact ⟨h,rfl⟩
 | cons x l ih =>
  intro S T h iS iT hl
  have hx:=hl x (List.mem_cons_self ..)
  obtain ⟨h1,h2⟩:=repair_sim h iS iT hx
  have hxT:0≤x∧x < T.ns.length:=by rw [← h.ns];exact hx
  have hS:=repair_step iS hx
  obtain ⟨h3,h4⟩:=ih _ _ h1 hS.inv (repair_step iT hxT).inv (fun y hy=>by rw [hS.kept.ns];exact hl y (List.mem_cons_of_mem _ hy))
  refine ⟨h3,?_⟩
  show (repairS S x).2+_=(repairS T x).2+_
  rw [h2,h4]
theorem pop_inv {S:St} (h:Inv S):Inv (popS S):=⟨h.ic.withTodo _ (by have:=h.ic.todo;rw [List.length_dropLast];omega),h.it⟩
theorem Sim.pop {S T:St} (h:Sim S T):Sim (popS S) (popS T):={ h with todo:=by show S.todo.dropLast=T.todo.dropLast;rw [h.todo] }
theorem par_sim {S T:St} (h:Sim S T):par (popS S) (lastS S)=par (popS T) (lastS T):=by
 unfold par parRaw lastS popS
 simp only
 rw [h.us,h.p,h.todo]
theorem rebN_eq {n:Nat} {S:St} (h:S.todo≠[]):rebN (n+1) S=((rebN n (reps (popS S) (par (popS S) (lastS S))).1).1,(reps (popS S) (par (popS S) (lastS S))).2+(rebN n (reps (popS S) (par (popS S) (lastS S))).1).2):=if_neg h
structure Reb (S:St) (r:St × Int) (c:Nat):Prop where
 inv:Inv r.1
 kept:Kept S r.1
 dirty:r.1.dirty=S.dirty
 todo:r.1.todo=[]
 joins:r.2+(roots r.1.p:Int)=roots S.p
 N:r.1.N≤S.N+c
theorem rebN_ok:∀ (n:Nat) (S:St),Inv S→S.todo.length+roots S.p≤n→S.N+n * 360000≤1152921504606846000→RebOk n S∧Reb S (rebN n S) (n * 360000):=by
 intro n
 induction n with
 | zero =>
  intro S h hm hN
  have ht:S.todo=[]:=List.length_eq_zero_iff.1 (by omega)
  exact ⟨⟨h.fine (by omega),ht⟩,h,Kept.refl S,rfl,ht,by simp [rebN],by simp [rebN]⟩
 | succ n ih =>
  intro S h hm hN
  have hf:Fine S:=h.fine (by omega)
  by_cases ht:S.todo=[]
  ·rw [rebN_done ht]
   exact ⟨⟨hf,.inl ht⟩,h,Kept.refl S,rfl,ht,by simp,by simp⟩
  ·have hp:=pop_inv h
   have hpf:Fine (popS S):=hp.fine (by show S.N≤_;omega)
   have hlen:=par_length hpf (lastS S)
   obtain ⟨h1,h2⟩:=reps_ok (par (popS S) (lastS S)) (popS S) hp (par_in hp.ic (lastS S)) (by show S.N+_≤_;omega)
   have hsum:=h2.sum
   have hN2:=h2.N
   have e1:(popS S).todo.length=S.todo.length - 1:=by show S.todo.dropLast.length=_;rw [List.length_dropLast]
   have e2:roots (popS S).p=roots S.p:=rfl
   have e3:(popS S).N=S.N:=rfl
   have hpos:0 < S.todo.length:=List.length_pos_iff.2 ht
   obtain ⟨h3,h4⟩:=ih _ h2.inv (by omega) (by rw [e3]at hN2;omega)
   rw [rebN_eq ht]
   have k0:Kept S (popS S):=⟨rfl,rfl,rfl,rfl,rfl,rfl,fun _ _ h=>h⟩
   refine ⟨⟨hf,.inr ⟨ht,h1,h3⟩⟩,h4.inv,(k0.trans h2.kept).trans h4.kept,h4.dirty.trans h2.dirty,h4.todo,?_,?_⟩
   ·have q1:=h2.joins
    have q2:=h4.joins
    rw [e2]at q1
    generalize reps (popS S) (par (popS S) (lastS S))=R at *
    generalize rebN n R.1=Q at *
    show R.2+Q.2+(roots Q.1.p:Int)=roots S.p
    omega
   ·have q1:=h4.N
    show (rebN n _).1.N≤_
    omega
theorem rebN_sim:∀ (n:Nat) (S T:St),Sim S T→Inv S→Inv T→S.N+n * 360000≤1152921504606846000→T.N+n * 360000≤1152921504606846000→Sim (rebN n S).1 (rebN n T).1∧(rebN n S).2=(rebN n T).2:=by
 intro n
 induction n with
 | zero=>intro S T h _ _ _ _;exact ⟨h,rfl⟩
 | succ n ih =>
  intro S T h iS iT hN hN'
  by_cases ht:S.todo=[]
  ·rw [rebN_done ht,rebN_done (by rw [← h.todo];exact ht)]
   exact ⟨h,rfl⟩
  ·have htT:T.todo≠[]:=by rw [← h.todo];exact ht
   rw [rebN_eq ht,rebN_eq htT,← par_sim h]
   have hin:=par_in (pop_inv iS).ic (lastS S)
   obtain ⟨h1,h2⟩:=reps_sim (par (popS S) (lastS S)) (popS S) (popS T) h.pop (pop_inv iS) (pop_inv iT) hin
   have hl:=par_length ((pop_inv iS).fine (by show S.N≤_;omega)) (lastS S)
   have e3:(popS S).N=S.N:=rfl
   have e4:(popS T).N=T.N:=rfl
   have hS:=(reps_ok (par (popS S) (lastS S)) (popS S) (pop_inv iS) hin (by omega)).2
   have hT:=(reps_ok (par (popS S) (lastS S)) (popS T) (pop_inv iT) (by rw [show (popS T).ns=(popS S).ns from h.ns.symm];exact hin) (by omega)).2
   have q1:=hS.N
   have q2:=hT.N
   obtain ⟨h3,h4⟩:=ih _ _ h1 hS.inv hT.inv (by omega) (by omega)
   refine ⟨h3,?_⟩
   simp only
   rw [h2,h4]
end Go.Proofs.YtjckhhecnebmmaaGreatDoor.TU
end
section
namespace Go.Proofs.YtjckhhecnebmmaaGreatDoor.TU
open Go.RowKit Go.Proofs.YtjckhhecnebmmaaGreatDoorW.PrintWords Go.Proofs.YtjckhhecnebmmaaGreatDoorW.PrintLast Go.Proofs.YtjckhhecnebmmaaGreatDoorW.PrintMore Go.Proofs.YtjckhhecnebmmaaGreatDoor.QAll
attribute [local go_sem] max2_int min2_int max_two min_two max_three min_three max_four min_four
set_option linter.unusedVariables false
theorem snoc_ind {α:Type} {P:List α→Prop} (h0:P []) (h1:∀ l a,P l→P (l++[a])):∀ l,P l:=by
 have h:∀ (n:Nat) (l:List α),l.length=n→P l:=by
  intro n
  induction n with
  | zero=>intro l hl;rw [List.length_eq_zero_iff.1 hl];exact h0
  | succ n ih =>
   intro l hl
   have hne:l≠[]:=by intro e;rw [e]at hl;simp at hl
   rw [← List.dropLast_concat_getLast hne]
   exact h1 _ _ (ih _ (by rw [List.length_dropLast];omega))
 exact fun l=>h _ l rfl
theorem last_snoc (l:List Int) (a:Int):(l++[a]).getLastD 0=a:=by simp [List.getLastD_eq_getLast?]
theorem last_ne {l:List Int} {a:Int} (h:a ∉ l) (hl:l.length≠0):l.getLastD 0≠a:=by
 have hne:l≠[]:=fun e=>hl (by rw [e];rfl)
 intro e
 rw [← List.dropLast_concat_getLast hne,last_snoc]at e
 exact h (by rw [← e];exact List.getLast_mem hne)
theorem getD_set {us:List (List Int)} {i j:Nat} {v:List Int} (hi:i < us.length):(us.set i v).getD j []=if j=i then v else us.getD j []:=by
 rw [List.getD_eq_getElem?_getD,List.getD_eq_getElem?_getD]
 by_cases h:j=i
 ·rw [if_pos h,h,List.getElem?_set_self hi];rfl
 ·rw [if_neg h,List.getElem?_set_ne (by omega)]
theorem useAll_get (us:List (List Int)) (id:Int) (hno:∀ i,id ∉ us.getD i []):∀ args:List Int,(∀ a∈args,0≤a∧a < us.length)→(useAll us id args).length=us.length∧∀ i:Nat,(useAll us id args).getD i []=if (i:Int)∈args then us.getD i []++[id]else us.getD i []:=by
 refine snoc_ind (fun _=>⟨rfl,fun i=>by rw [if_neg (by simp)];rfl⟩) (fun q a ih h=>?_)
 obtain ⟨hl,hg⟩:=ih (fun b hb=>h b (List.mem_append_left _ hb))
 have ha:=h a (List.mem_append_right _ (List.mem_singleton.2 rfl))
 have hai:((a.toNat:Nat):Int)=a:=by omega
 have hrow:=hg a.toNat
 rw [hai]at hrow
 rw [useAll_snoc]
 unfold useAdd
 by_cases hq:a∈q
 ·rw [if_pos hq]at hrow
  rw [hrow,if_neg (by rw [last_snoc];simp)]
  refine ⟨hl,fun i=>?_⟩
  rw [hg i]
  by_cases hi:(i:Int)∈q
  ·rw [if_pos hi,if_pos (List.mem_append_left _ hi)]
  ·rw [if_neg hi,if_neg (fun hm=>by
    rcases List.mem_append.1 hm with h1 | h1
    ·exact hi h1
    ·rw [List.mem_singleton.1 h1]at hi;exact hi hq)]
 ·rw [if_neg hq]at hrow
  rw [hrow,if_pos (by
   by_cases h0:(us.getD a.toNat []).length=0
   ·exact .inl h0
   ·exact .inr (last_ne (hno _) h0))]
  refine ⟨by rw [List.length_set];exact hl,fun i=>?_⟩
  rw [getD_set (by omega)]
  by_cases hi:i=a.toNat
  ·rw [if_pos hi,if_pos (List.mem_append_right _ (by rw [hi,hai];exact List.mem_singleton.2 rfl)),hi]
  ·rw [if_neg hi,hg i]
   by_cases hm:(i:Int)∈q
   ·rw [if_pos hm,if_pos (List.mem_append_left _ hm)]
   ·rw [if_neg hm,if_neg (fun hm'=>by
     rcases List.mem_append.1 hm' with h1 | h1
     ·exact hm h1
     ·rw [List.mem_singleton]at h1;omega)]
theorem cutAll_get (us:List (List Int)) (id:Int) (hno:∀ i,id ∉ us.getD i []) (args:List Int) (hin:∀ a∈args,0≤a∧a < us.length):∀ q:List Int,(∀ a∈q,a∈args)→∀ i:Nat,(cutAll (useAll us id args) id q).getD i []=if (i:Int)∈args∧(i:Int) ∉ q then us.getD i []++[id]else us.getD i []:=by
 obtain ⟨hl0,hg0⟩:=useAll_get us id hno args hin
 refine snoc_ind (fun _ i=>?_) (fun q a ih h i=>?_)
 ·show (useAll us id args).getD i []=_
  rw [hg0 i]
  by_cases hm:(i:Int)∈args
  ·rw [if_pos hm,if_pos ⟨hm,by simp⟩]
  ·rw [if_neg hm,if_neg (fun hh=>hm hh.1)]
 ·have hg:=ih (fun b hb=>h b (List.mem_append_left _ hb))
  have haa:=h a (List.mem_append_right _ (List.mem_singleton.2 rfl))
  have ha:=hin a haa
  have hai:((a.toNat:Nat):Int)=a:=by omega
  have hl:(cutAll (useAll us id args) id q).length=us.length:=by rw [cutAll_length];exact hl0
  have hrow:=hg a.toNat
  rw [hai]at hrow
  rw [cutAll_snoc]
  unfold useCut
  by_cases hq:a∈q
  ·rw [if_neg (fun hh=>hh.2 hq)]at hrow
   rw [hrow,if_neg (fun hh=>last_ne (hno _) hh.1 hh.2),hg i]
   by_cases hm:(i:Int)∈args∧(i:Int) ∉ q
   ·rw [if_pos hm,if_pos ⟨hm.1,fun hm'=>by
     rcases List.mem_append.1 hm' with h1 | h1
     ·exact hm.2 h1
     ·rw [List.mem_singleton.1 h1]at hm;exact hm.2 hq⟩]
   ·rw [if_neg hm,if_neg (fun hh=>hm ⟨hh.1,fun h1=>hh.2 (List.mem_append_left _ h1)⟩)]
  ·rw [if_pos ⟨haa,hq⟩]at hrow
   rw [hrow,if_pos ⟨by simp,last_snoc _ _⟩,getD_set (by omega),List.dropLast_concat]
   by_cases hi:i=a.toNat
   ·rw [if_pos hi,if_neg (fun hh=>hh.2 (List.mem_append_right _ (by rw [hi,hai];exact List.mem_singleton.2 rfl))),hi]
   ·rw [if_neg hi,hg i]
    by_cases hm:(i:Int)∈args∧(i:Int) ∉ q
    ·rw [if_pos hm,if_pos ⟨hm.1,fun hm'=>by
      rcases List.mem_append.1 hm' with h1 | h1
      ·exact hm.2 h1
      ·rw [List.mem_singleton]at h1;omega⟩]
    ·rw [if_neg hm,if_neg (fun hh=>hm ⟨hh.1,fun h1=>hh.2 (List.mem_append_left _ h1)⟩)]
theorem ext_getD {a b:List (List Int)} (hl:a.length=b.length) (h:∀ i,a.getD i []=b.getD i []):a=b:=by
 apply List.ext_getElem hl
 intro i h1 h2
 have:=h i
 rw [List.getD_eq_getElem?_getD,List.getD_eq_getElem?_getD,List.getElem?_eq_getElem h1,List.getElem?_eq_getElem h2]at this
 exact this
theorem cut_use (us:List (List Int)) (id:Int) (hno:∀ i,id ∉ us.getD i []) (args:List Int) (hin:∀ a∈args,0≤a∧a < us.length):cutAll (useAll us id args) id args=us:=by
 refine ext_getD (by rw [cutAll_length];exact (useAll_get us id hno args hin).1) (fun i=>?_)
 rw [cutAll_get us id hno args hin args (fun _ h=>h) i,if_neg (fun hh=>hh.2 hh.1)]
theorem flaw_op1 {S:St} {n:Nd} (h:flawF S n=0):(1≤n.op∧n.op≤23)∧(n.args.length:Int)=arity n.op∧bad2 n=false∧bad6 S n=false∧argsIn S n=true:=by
 unfold flawF at h
 split at h
 ·omega
 rename_i h1
 split at h
 ·omega
 rename_i h2
 split at h
 ·omega
 split at h
 ·omega
 rename_i h4
 split at h
 ·omega
 split at h
 ·omega
 rename_i h6
 have ha:¬ arity n.op < 0:=fun h=>h1 (.inl h)
 have hop:1≤n.op∧n.op≤23:=by unfold arity at ha;split at ha <;> omega
 exact ⟨hop,by omega,by simpa using h2,by simpa using h6,by simpa using h4⟩
theorem flaw_var {S:St} {n:Nd} (h:flawF S n=0) (hop:n.op=1):n.val=0∧n.args=[]:=by
 obtain ⟨_,h2,h3,_⟩:=flaw_op1 h
 constructor
 ·unfold bad2 at h3
  rw [hop]at h3
  simpa using h3
 ·rw [hop]at h2
  have h1:arity 1=0:=by decide
  exact List.length_eq_zero_iff.1 (by omega)
theorem var_new {S:St} (hi:IC S) {n:Nd} (h:flawF S n=0) (hop:n.op=1) (hex:S.ex (keyStr n)=none):S.vs (lits_ n.name)=none:=by
 cases hv:S.vs (lits_ n.name)with
 | none=>rfl
 | some v =>
  exfalso
  obtain ⟨m,hm,h1,h2,h3⟩:=hi.vs _ _ hv
  have hn:=flaw_var h hop
  have hmv:=hi.vok m hm h1
  have h6:=(flaw_op1 h).2.2.2.1
  unfold bad6 clash at h6
  rw [hop,hv,h3]at h6
  have hw:m.width=n.width:=by
   by_cases hw:m.width=n.width
   ·exact hw
   ·exfalso
    have h7:(decide ((1:Int)=1) && decide (m.width≠n.width))=false:=h6
    rw [decide_eq_true hw]at h7
    simp at h7
  have e:n=m:=by
   obtain ⟨op,width,val,name,args⟩:=n
   obtain ⟨op',width',val',name',args'⟩:=m
   have hnm:=lits_inj h2
   simp only at hop hn h1 hmv hw hnm
   rw [hop,h1,hn.1,hmv.1,hn.2,hmv.2,hw,hnm]
  obtain ⟨i,hi',rfl⟩:=List.getElem_of_mem hm
  have:=hi.ex i _ (List.getElem?_eq_getElem hi')
  rw [← e,hex]at this
  cases this
end Go.Proofs.YtjckhhecnebmmaaGreatDoor.TU
end
section
namespace Go.Proofs.YtjckhhecnebmmaaGreatDoor.TU
open Go.RowKit Go.Proofs.YtjckhhecnebmmaaGreatDoorW.PrintWords Go.Proofs.YtjckhhecnebmmaaGreatDoorW.PrintLast Go.Proofs.YtjckhhecnebmmaaGreatDoorW.PrintMore Go.Proofs.YtjckhhecnebmmaaGreatDoor.QAll
attribute [local go_sem] max2_int min2_int max_two min_two max_three min_three max_four min_four
set_option linter.unusedVariables false
structure NewOk (S:St) (n:Nd):Prop where
 ok:n.Ok
 flaw:flawF S n=0
 ex:S.ex (keyStr n)=none
 len:S.ns.length < 400
theorem NewOk.hin {S:St} {n:Nd} (h:NewOk S n):∀ a∈n.args,0≤a∧a < S.ns.length:=flaw_args h.flaw
theorem newKey_eq {S:St} (hi:IC S) {n:Nd} (hin:∀ a∈n.args,0≤a∧a < S.ns.length):newKey S n=canonN S.p n:=by
 unfold newKey canonN newP
 congr 1
 exact List.map_congr_left (fun a ha=>fnd_app hi.well a.toNat a (Nat.le_refl _) (hin a ha).1 (by rw [hi.hp];exact (hin a ha).2))
theorem getElem_snoc {α:Type} {l:List α} {a x:α} {i:Nat} (h:(l++[a])[i]?=some x):(i < l.length∧l[i]?=some x)∨(i=l.length∧x=a):=by
 rcases Nat.lt_trichotomy i l.length with h1 | h1 | h1
 ·rw [List.getElem?_append_left h1]at h;exact .inl ⟨h1,h⟩
 ·rw [h1,List.getElem?_append_right (Nat.le_refl _),Nat.sub_self]at h
  injection h with h
  exact .inr ⟨h1,h.symm⟩
 ·rw [List.getElem?_eq_none (by simp;omega)]at h;cases h
theorem getElem_snoc_lt {α:Type} {l:List α} {a:α} {i:Nat} (h:i < l.length):(l++[a])[i]?=l[i]?:=List.getElem?_append_left h
theorem users_no {S:St} (hi:IC S) (i:Nat):(newId S) ∉ (S.us++[[]]).getD i []:=by
 intro h
 unfold newId at h
 rw [List.getD_eq_getElem?_getD]at h
 cases hq:(S.us++[[]])[i]? with
 | none=>rw [hq]at h;simp at h
 | some u =>
  rw [hq]at h
  rcases getElem_snoc hq with ⟨_,h1⟩ | ⟨_,h1⟩
  ·have:=(hi.us u (List.mem_of_getElem? h1)).2 _ h
   have:=hi.hp
   omega
  ·rw [h1]at h;simp at h
theorem grown_ic {S:St} (hi:IC S) {n:Nd} (hN:NewOk S n):IC (grown S n)∧roots (grown S n).p=roots S.p+1:=by
 have hin:=hN.hin
 have hp:=hi.hp
 have hr:roots (grown S n).p=roots S.p+1:=roots_app S.p
 have hlp:(newP S).length=S.ns.length+1:=by unfold newP;rw [List.length_append,List.length_singleton];omega
 have hW:Well (newP S):=well_snoc hi.well
 have hkey:=newKey_eq hi hin
 have hkr:∀ a∈(newKey S n).args,Rt S.p a:=by
  rw [hkey]
  exact canon_roots hi.well (fun a ha=>by rw [hp];exact hin a ha)
 have hid:newId S=(S.ns.length:Int):=by unfold newId;rw [hp]
 have hus:=useAll_get (S.us++[[]]) (newId S) (users_no hi) n.args (fun a ha=>by have:=hin a ha;rw [List.length_append,List.length_singleton,hi.hu];omega)
 have hfa:∀ x:Int,0≤x→x < S.p.length→fnd (newP S) x=fnd S.p x:=fun x h0 h1=>fnd_app hi.well x.toNat x (Nat.le_refl _) h0 h1
 refine ⟨{ hp:=?_,hk:=?_,hu:=?_,well:=hW,no:=?_,ain:=?_,vok:=?_,ex:=?_,exn:=?_,vs:=?_,us:=?_,ko:=?_,kin:=?_,kc:=?_,todo:=?_,tl:=?_,hL:=hi.hL,len:=?_ },hr⟩
 ·show (newP S).length=(S.ns++[n]).length
  rw [hlp,List.length_append,List.length_singleton]
 ·show (S.ks++[newKey S n]).length=(S.ns++[n]).length
  rw [List.length_append,List.length_append,hi.hk];rfl
 ·show (useAll (S.us++[[]]) (newId S) n.args).length=(S.ns++[n]).length
  rw [hus.1,List.length_append,List.length_append,hi.hu];rfl
 ·intro m hm
  rcases List.mem_append.1 hm with h | h
  ·exact hi.no m h
  ·rw [List.mem_singleton.1 h];exact hN.ok
 ·intro i m hm a ha
  rcases getElem_snoc hm with ⟨_,h1⟩ | ⟨h1,h2⟩
  ·exact hi.ain i m h1 a ha
  ·subst h2
   have:=hin a ha
   omega
 ·intro m hm
  rcases List.mem_append.1 hm with h | h
  ·exact hi.vok m h
  ·rw [List.mem_singleton.1 h];exact flaw_var hN.flaw
 ·intro i m hm
  show (if keyStr m=keyStr n then some (newId S)else S.ex (keyStr m))=_
  rcases getElem_snoc hm with ⟨_,h1⟩ | ⟨h1,h2⟩
  ·have h3:=hi.ex i m h1
   rw [if_neg (fun e=>by rw [e,hN.ex]at h3;cases h3)]
   exact h3
  ·subst h2
   rw [if_pos rfl,hid,h1]
 ·intro k id hk
  have hk:(if k=keyStr n then some (newId S)else S.ex k)=some id:=hk
  split at hk
  ·rename_i he
   injection hk with hk
   subst hk
   refine ⟨n,by rw [hid];omega,?_,he.symm⟩
   show (S.ns++[n])[(newId S).toNat]?=some n
   rw [hid,Int.toNat_natCast,List.getElem?_append_right (Nat.le_refl _),Nat.sub_self]
   rfl
  ·obtain ⟨m,h0,hm,hs⟩:=hi.exn k id hk
   exact ⟨m,h0,by show (S.ns++[n])[id.toNat]?=_;rw [getElem_snoc_lt (getElem_lt hm)];exact hm,hs⟩
 ·intro l v hv
  have hv:newVs S n l=some v:=hv
  unfold newVs at hv
  split at hv
  ·rename_i hop
   unfold updF at hv
   split at hv
   ·rename_i hl
    injection hv with hv
    exact ⟨n,List.mem_append_right _ (List.mem_singleton.2 rfl),hop,hl,hv.symm⟩
   ·obtain ⟨m,hm,h1⟩:=hi.vs l v hv
    exact ⟨m,List.mem_append_left _ hm,h1⟩
  ·obtain ⟨m,hm,h1⟩:=hi.vs l v hv
   exact ⟨m,List.mem_append_left _ hm,h1⟩
 ·intro u hu
  obtain ⟨i,hil,hiu⟩:=List.getElem_of_mem hu
  have hg:=hus.2 i
  have hu2:(useAll (S.us++[[]]) (newId S) n.args).getD i []=u:=by
   rw [List.getD_eq_getElem?_getD]
   have:(useAll (S.us++[[]]) (newId S) n.args)[i]?=some u:=by rw [← hiu];exact List.getElem?_eq_getElem hil
   rw [this];rfl
  have hold:((S.us++[[]]).getD i []).length≤S.ns.length∧∀ x:Int,x∈(S.us++[[]]).getD i []→0≤x∧x < S.ns.length:=by
   rw [List.getD_eq_getElem?_getD]
   cases hq:(S.us++[[]])[i]? with
   | none=>exact ⟨by simp,fun x hx=>by simp at hx⟩
   | some v =>
    rcases getElem_snoc hq with ⟨_,h1⟩ | ⟨_,h1⟩
    ·exact hi.us v (List.mem_of_getElem? h1)
    ·rw [h1];exact ⟨by simp,fun x hx=>by simp at hx⟩
  have hns:(grown S n).ns.length=S.ns.length+1:=by show (S.ns++[n]).length=_;rw [List.length_append];rfl
  rw [hu2]at hg
  rw [hns]
  split at hg
  ·rw [hg]
   refine ⟨by rw [List.length_append,List.length_singleton];omega,fun x hx=>?_⟩
   rcases List.mem_append.1 hx with h | h
   ·have:=hold.2 x h;omega
   ·rw [List.mem_singleton.1 h,hid];omega
  ·rw [hg]
   exact ⟨by omega,fun x hx=>by have:=hold.2 x hx;omega⟩
 ·intro k hk
  rcases List.mem_append.1 hk with h | h
  ·exact hi.ko k h
  ·rw [List.mem_singleton.1 h]
   have h1:=hN.ok
   refine ⟨h1.op,h1.width,h1.val,h1.name,fun a ha=>?_,by show (n.args.map _).length≤_;rw [List.length_map];exact h1.few⟩
   have h2:=hkr a ha
   have h3:=h2.1
   have h4:=h2.2.1
   have:=hi.len
   omega
 ·intro k hk a ha
  have hns:(grown S n).ns.length=S.ns.length+1:=by show (S.ns++[n]).length=_;rw [List.length_append];rfl
  rw [hns]
  rcases List.mem_append.1 hk with h | h
  ·have:=hi.kin k h a ha;omega
  ·rw [List.mem_singleton.1 h]at ha
   have h2:=hkr a ha
   have h3:=h2.1
   have h4:=h2.2.1
   omega
 ·intro i k m hk hm
  show canonN (newP S) k=canonN (newP S) m
  rcases getElem_snoc hm with ⟨hlt,h1⟩ | ⟨h1,h2⟩
  ·rcases getElem_snoc hk with ⟨_,h3⟩ | ⟨h3,_⟩
   ·have h4:=hi.kc i k m h3 h1
    have e:∀ q:Nd,(∀ a∈q.args,0≤a∧a < S.ns.length)→canonN (newP S) q=canonN S.p q:=fun q hq=>by
     unfold canonN
     congr 1
     exact List.map_congr_left (fun a ha=>hfa a (hq a ha).1 (by rw [hp];exact (hq a ha).2))
    rw [e k (hi.kin k (List.mem_of_getElem? h3)),e m (fun a ha=>by have:=hi.ain i m h1 a ha;omega)]
    exact h4
   ·have:=hi.hk;omega
  ·subst h2
   rcases getElem_snoc hk with ⟨h3,_⟩ | ⟨_,h3⟩
   ·have:=hi.hk;omega
   ·rw [h3]
    exact canon_canon (fun a ha=>fnd_fnd hW (hin a ha).1 (by have:=hin a ha;omega))
 ·show S.todo.length+roots (newP S)≤(S.ns++[n]).length
  have:=hi.todo
  have:roots (newP S)=roots S.p+1:=hr
  rw [List.length_append,List.length_singleton]
  omega
 ·show (S.t++[_]).length+roots (newP S)≤2 * (S.ns++[n]).length
  have:=hi.tl
  have:roots (newP S)=roots S.p+1:=hr
  rw [List.length_append,List.length_append,List.length_singleton,List.length_singleton]
  omega
 ·show (S.ns++[n]).length≤400
  rw [List.length_append,List.length_singleton]
  have:=hN.len
  omega
theorem grown_it {S:St} (hi:Inv S) {n:Nd} (hN:NewOk S n) :
  (∀ s y,S.tab s=some y→0≤y∧y < S.ns.length∧∃ k,(S.ks++[newKey S n])[y.toNat]?=some k∧keyStr k=s) ∧
  (∀ (i:Nat) (k:Nd),i≠S.ns.length→(S.ks++[newKey S n])[i]?=some k→(∀ a∈k.args,Rt (newP S) a)→∃ y,S.tab (keyStr k)=some y∧fnd (newP S) y=fnd (newP S) (i:Int)):=by
 have h:=hi.ic
 have hp:=h.hp
 have hfa:∀ x:Int,0≤x→x < S.p.length→fnd (newP S) x=fnd S.p x:=fun x h0 h1=>fnd_app h.well x.toNat x (Nat.le_refl _) h0 h1
 have c3:∀ s y,S.tab s=some y→0≤y∧y < S.ns.length∧∃ k,(S.ks++[newKey S n])[y.toNat]?=some k∧keyStr k=s:=by
  intro s y hy
  obtain ⟨h0,k,hk,hs⟩:=hi.it.c3 s y hy
  have hl:=getElem_lt hk
  refine ⟨h0,by rw [h.hk]at hl;omega,k,?_,hs⟩
  rw [getElem_snoc_lt hl]
  exact hk
 refine ⟨c3,fun i k hne hk hr=>?_⟩
 rcases getElem_snoc hk with ⟨hlt,h1⟩ | ⟨h1,_⟩
 ·have hlt':i < S.ns.length:=by rw [← h.hk];exact hlt
  obtain ⟨y,hy,hf⟩:=hi.it.j i k h1 (fun a ha=>(rt_app (by have:=h.kin k (List.mem_of_getElem? h1) a ha;rw [hp];exact this.2)).1 (hr a ha))
  obtain ⟨h0,hyl,_⟩:=c3 _ _ hy
  refine ⟨y,hy,?_⟩
  rw [hfa y h0 (by omega),hfa i (by omega) (by omega)]
  exact hf
 ·exact absurd (h1.trans h.hk) hne
theorem addNew_none {S:St} {n:Nd} (h:S.tab (keyStr (newKey S n))=none):addNew S n={ grown S n with tab:=putT S.tab (keyStr (newKey S n)) (newId S) }:=by unfold addNew;rw [h]
theorem addNew_some {S:St} {n:Nd} {y:Int} (h:S.tab (keyStr (newKey S n))=some y):addNew S n=setS (grown S n) (mx (fnd (newP S) y) (fnd (newP S) (newId S))) (mn (fnd (newP S) y) (fnd (newP S) (newId S))):=by unfold addNew;rw [h];rfl
structure Added (S:St) (n:Nd) (S':St):Prop where
 inv:Inv S'
 ns:S'.ns=S.ns++[n]
 us:S'.us=useAll (S.us++[[]]) (newId S) n.args
 ex:S'.ex=putT S.ex (keyStr n) (newId S)
 vs:S'.vs=newVs S n
 L:S'.L=S.L
 ms:S'.ms=S.ms
 dirty:S'.dirty=S.dirty
 roots:roots S'.p≤roots S.p+1
 N:S'.N≤S.N+3
 ur:∀ p t,UR p t S.p S.t→UR p t S'.p S'.t
theorem pop_new {S:St}:pop1 (newP S) ⟨true,newId S⟩=S.p:=by
 unfold pop1 newP newId
 simp
theorem ur_new {S:St} {p:List Int} {t:List S115} (h:UR p t S.p S.t):UR p t (newP S) (S.t++[⟨true,newId S⟩]):=by
 refine h.snoc ⟨true,newId S⟩ ?_ pop_new
 unfold newId newP
 simp
 omega
theorem addNew_ok {S:St} (hi:Inv S) {n:Nd} (hN:NewOk S n):Added S n (addNew S n):=by
 have h:=hi.ic
 obtain ⟨hg,hr⟩:=grown_ic h hN
 obtain ⟨c3,j⟩:=grown_it hi hN
 have hp:=h.hp
 have hid:newId S=(S.ns.length:Int):=by unfold newId;rw [hp]
 have hlen:(S.ks++[newKey S n]).length=S.ns.length+1:=by rw [List.length_append,List.length_singleton,h.hk]
 have hself:(S.ks++[newKey S n])[S.ns.length]?=some (newKey S n):=by
  rw [← h.hk,List.getElem?_append_right (Nat.le_refl _),Nat.sub_self];rfl
 cases ht:S.tab (keyStr (newKey S n))with
 | none =>
  rw [addNew_none ht]
  refine ⟨⟨{ hg with },fun s y hy=>?_,fun i k hk hr'=>?_⟩,rfl,rfl,rfl,rfl,rfl,rfl,rfl,by show roots (grown S n).p≤_;omega,Nat.le_refl _,fun p t u=>ur_new u⟩
  ·have hy:(if s=keyStr (newKey S n)then some (newId S)else S.tab s)=some y:=hy
   show 0≤y∧∃ k,(S.ks++[newKey S n])[y.toNat]?=some k∧_
   split at hy
   ·rename_i he
    injection hy with hy
    subst hy
    exact ⟨by rw [hid];omega,_,by rw [hid,Int.toNat_natCast];exact hself,he.symm⟩
   ·obtain ⟨h0,_,h1⟩:=c3 s y hy
    exact ⟨h0,h1⟩
  ·show ∃ y,(if keyStr k=keyStr (newKey S n)then some (newId S)else S.tab (keyStr k))=some y∧fnd (newP S) y=fnd (newP S) (i:Int)
   by_cases hx:i=S.ns.length
   ·subst hx
    have hk:(S.ks++[newKey S n])[S.ns.length]?=some k:=hk
    rw [hself]at hk
    injection hk with hk
    subst hk
    exact ⟨newId S,if_pos rfl,by rw [hid]⟩
   ·obtain ⟨y,hy,hf⟩:=j i k hx hk hr'
    refine ⟨y,?_,hf⟩
    rw [if_neg (fun e=>by rw [e,ht]at hy;cases hy)]
    exact hy
 | some y =>
  rw [addNew_some ht]
  obtain ⟨hy0,hyl,_⟩:=c3 _ _ ht
  have hW:Well (newP S):=hg.well
  have hpl:(newP S).length=S.ns.length+1:=by unfold newP;rw [List.length_append,List.length_singleton];omega
  have ry:=fnd_root hW hy0 (by omega)
  have hidr:Rt (newP S) (newId S):=by
   have:=rt_new S.p
   exact this
  have rid:fnd (newP S) (newId S)=newId S:=fnd_self hidr
  have hyle:fnd (newP S) y≤y:=fnd_low hW hy0 (by omega)
  have hne:fnd (newP S) y≠fnd (newP S) (newId S):=by rw [rid,hid];omega
  obtain ⟨hh,hl⟩:=mx_cases (P:=Rt (newP S)) ry (by rw [rid];exact hidr:Rt (newP S) (fnd (newP S) (newId S)))
  have hlt:=mx_lt hne
  obtain ⟨h1,h2⟩:=hg.set hh hl hlt
  have hrs:=roots_set (p:=(grown S n).p) hh hlt
  refine ⟨⟨h1,IT.join hW (by rw [hlen,hpl]) (fun s z hz=>?_) S.ns.length j (y:=y) (fun k hk=>?_) hh hl hlt⟩,rfl,rfl,rfl,rfl,rfl,rfl,rfl,?_,Nat.le_refl _,fun p t u=>(ur_new u).set hh⟩
  ·obtain ⟨h0,_,h3⟩:=c3 s z hz
   exact ⟨h0,h3⟩
  ·rw [hself]at hk
   injection hk with hk
   subst hk
   refine ⟨ht,?_⟩
   rw [show ((S.ns.length:Nat):Int)=newId S from hid.symm]
   rcases mx_mn (fnd (newP S) y) (fnd (newP S) (newId S))with ⟨e1,e2,_⟩ | ⟨e1,e2,_⟩
   ·exact .inl ⟨e1.symm,e2.symm⟩
   ·exact .inr ⟨e2.symm,e1.symm⟩
  ·show roots ((grown S n).p.set _ _)≤_
   omega
theorem addNew_sim {S T:St} (h:Sim S T) (iS:Inv S) (iT:Inv T) {n:Nd} (hN:NewOk S n):Sim (addNew S n) (addNew T n):=by
 have hkey:newKey S n=newKey T n:=by unfold newKey newP;rw [h.p]
 have hid:newId S=newId T:=by unfold newId;rw [h.p]
 have hnp:newP S=newP T:=by unfold newP;rw [h.p]
 have hvs:newVs S n=newVs T n:=by unfold newVs;rw [h.vs]
 have hroots:∀ a∈(newKey S n).args,Rt S.p a:=by
  rw [newKey_eq iS.ic hN.hin]
  exact canon_roots iS.ic.well (fun a ha=>by rw [iS.ic.hp];exact hN.hin a ha)
 have hg:Sim (grown S n) (grown T n):=by
  refine ⟨?_,?_,?_,hnp,?_,?_,hvs,h.todo,h.dirty⟩
  ·show S.ns++_=T.ns++_;rw [h.ns]
  ·show S.ks++[newKey S n]=T.ks++[newKey T n];rw [h.ks,hkey]
  ·show useAll (S.us++_) (newId S) _=useAll (T.us++_) (newId T) _;rw [h.us,hid]
  ·show S.t++[⟨true,newId S⟩]=T.t++[⟨true,newId T⟩];rw [h.t,hid]
  ·show putT S.ex _ (newId S)=putT T.ex _ (newId T);rw [h.ex,hid]
 cases hS:S.tab (keyStr (newKey S n))with
 | none =>
  have hT:T.tab (keyStr (newKey T n))=none:=by
   cases hT:T.tab (keyStr (newKey T n))with
   | none=>rfl
   | some z =>
    obtain ⟨y,hy,_⟩:=h.symm.look iT iS (by rw [← hkey,← h.p];exact hroots) hT
    rw [← hkey,hS]at hy
    cases hy
  rw [addNew_none hS,addNew_none hT]
  exact ⟨hg.ns,hg.ks,hg.us,hg.p,hg.t,hg.ex,hg.vs,hg.todo,hg.dirty⟩
 | some y =>
  obtain ⟨z,hz,hf⟩:=h.look iS iT hroots hS
  rw [hkey]at hz
  rw [addNew_some hS,addNew_some hz]
  obtain ⟨hy0,hyl,_⟩:=(grown_it iS hN).1 _ _ hS
  have hzr:0≤z∧z < T.p.length:=by
   obtain ⟨h0,k,hk,_⟩:=iT.it.c3 _ _ hz
   have:=getElem_lt hk
   rw [iT.ic.hk,← iT.ic.hp]at this
   exact ⟨h0,by omega⟩
  have e1:fnd (newP T) z=fnd (newP S) y:=by
   have a1:fnd (newP T) z=fnd T.p z:=fnd_app iT.ic.well z.toNat z (Nat.le_refl _) hzr.1 hzr.2
   have a2:fnd (newP S) y=fnd S.p y:=fnd_app iS.ic.well y.toNat y (Nat.le_refl _) hy0 (by rw [iS.ic.hp];exact hyl)
   rw [a1,a2,hf]
  have e2:fnd (newP T) (newId T)=fnd (newP S) (newId S):=by rw [hnp,hid]
  rw [e1,e2]
  exact ⟨hg.ns,hg.ks,hg.us,by show (grown S n).p.set _ _=(grown T n).p.set _ _;rw [hg.p],by show (grown S n).t++_=(grown T n).t++_;rw [hg.t],hg.ex,hg.vs,hg.todo,hg.dirty⟩
end Go.Proofs.YtjckhhecnebmmaaGreatDoor.TU
end

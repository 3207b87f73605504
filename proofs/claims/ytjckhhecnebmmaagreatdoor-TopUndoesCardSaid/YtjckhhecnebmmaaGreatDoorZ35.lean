/- Steps towards the law TopUndoes; words printed by the kit, and printed texts, are cut to what is used, and spaces are left out. No condition. -/
import Derived.Test.YtjckhhecnebmmaaGreatDoorZ34
import Derived.Test.YtjckhhecnebmmaaGreatDoorZ26
import Derived.Test.YtjckhhecnebmmaaGreatDoorZ31
set_option linter.unusedVariables false
set_option linter.unusedSimpArgs false
section
namespace Go.Proofs.YtjckhhecnebmmaaGreatDoor.TU
open Go.RowKit Go.Proofs.YtjckhhecnebmmaaGreatDoorW.PrintWords Go.Proofs.YtjckhhecnebmmaaGreatDoorW.PrintLast Go.Proofs.YtjckhhecnebmmaaGreatDoorW.PrintMore Go.Proofs.YtjckhhecnebmmaaGreatDoor.QAll
attribute [local go_sem] max2_int min2_int max_two min_two max_three min_three max_four min_four
set_option linter.unusedVariables false
structure Four (S T:St):Prop where
 ns:S.ns=T.ns
 us:S.us=T.us
 ex:S.ex=T.ex
 vs:S.vs=T.vs
theorem Four.refl (S:St):Four S S:=⟨rfl,rfl,rfl,rfl⟩
theorem Four.trans {S T U:St} (h:Four S T) (k:Four T U):Four S U:=⟨h.ns.trans k.ns,h.us.trans k.us,h.ex.trans k.ex,h.vs.trans k.vs⟩
theorem Four.drop {S T:St} (h:Four S T) (m:Nat):Four (dropS S m) (dropS T m):=by
 refine ⟨?_,?_,?_,?_⟩
 ·show S.ns.take m=T.ns.take m;rw [h.ns]
 ·show (cutAll S.us m (S.ns.getD m zNd).args).take m=(cutAll T.us m (T.ns.getD m zNd).args).take m;rw [h.us,h.ns]
 ·show delT S.ex (keyStr (S.ns.getD m zNd))=delT T.ex (keyStr (T.ns.getD m zNd));rw [h.ex,h.ns]
 ·show dropVs S.vs (S.ns.getD m zNd)=dropVs T.vs (T.ns.getD m zNd);rw [h.vs,h.ns]
theorem Four.dropN:∀ (c:Nat) {S T:St},Four S T→Four (dropN c S) (dropN c T):=by
 intro c
 induction c with
 | zero=>intro S T h;exact h
 | succ c ih =>
  intro S T h
  show Four (TU.dropN c (dropS S (S.ns.length - 1))) (TU.dropN c (dropS T (T.ns.length - 1)))
  rw [h.ns]
  exact ih (h.drop _)
def Rs (A S:St):Prop:=∃ c,S.ns.length=A.ns.length+c∧Four (dropN c S) A
theorem Rs.refl (A:St):Rs A A:=⟨0,rfl,Four.refl A⟩
theorem Rs.four {A S S':St} (h:Rs A S) (k:Four S' S):Rs A S':=by
 obtain ⟨c,h1,h2⟩:=h
 exact ⟨c,by rw [k.ns];exact h1,(k.dropN c).trans h2⟩
theorem Kept.four {S S':St} (h:Kept S S'):Four S' S:=⟨h.ns,h.us,h.ex,h.vs⟩
theorem Rs.added {A S S':St} {n:Nd} (h:Rs A S) (hi:Inv S) (hN:NewOk S n) (k:Added S n S'):Rs A S':=by
 obtain ⟨c,h1,h2⟩:=h
 have hl:S'.ns.length=S.ns.length+1:=by rw [k.ns,List.length_append];rfl
 refine ⟨c+1,by omega,?_⟩
 have hm:S'.ns.length - 1=S.ns.length:=by omega
 have hid:newId S=((S.ns.length:Nat):Int):=by unfold newId;rw [hi.ic.hp]
 have hat:S'.ns.getD S.ns.length zNd=n:=by
  rw [k.ns,List.getD_eq_getElem?_getD,List.getElem?_append_right (Nat.le_refl _),Nat.sub_self];rfl
 have h4:Four (dropS S' (S'.ns.length - 1)) S:=by
  rw [hm]
  refine ⟨?_,?_,?_,?_⟩
  ·show S'.ns.take S.ns.length=S.ns
   rw [k.ns,List.take_append_of_le_length (Nat.le_refl _),List.take_length]
  ·show (cutAll S'.us S.ns.length (S'.ns.getD S.ns.length zNd).args).take S.ns.length=S.us
   rw [hat,k.us,← hid,cut_use _ _ (users_no hi.ic) _ (fun a ha=>by have:=hN.hin a ha;rw [List.length_append,List.length_singleton,hi.ic.hu];omega),← hi.ic.hu,List.take_append_of_le_length (Nat.le_refl _),List.take_length]
  ·show delT S'.ex (keyStr (S'.ns.getD S.ns.length zNd))=S.ex
   rw [hat,k.ex]
   funext s
   unfold delT putT
   by_cases hs:s=keyStr n
   ·rw [if_pos hs,hs,hN.ex]
   ·rw [if_neg hs,if_neg hs]
  ·show dropVs S'.vs (S'.ns.getD S.ns.length zNd)=S.vs
   rw [hat,k.vs]
   unfold dropVs newVs
   by_cases hop:n.op=1
   ·rw [if_pos hop,if_pos hop]
    funext l
    unfold updF
    by_cases hl:l=lits_ n.name
    ·rw [if_pos hl,hl,var_new hi.ic hN.flaw hop hN.ex]
    ·rw [if_neg hl,if_neg hl]
   ·rw [if_neg hop,if_neg hop]
 exact (h4.dropN c).trans h2
structure Grow (S S':St) (c:Nat):Prop where
 inv:Inv S'
 len:S'.ns.length≤S.ns.length+c
 mono:S.ns.length≤S'.ns.length
 roots:roots S'.p≤roots S.p+c
 L:S'.L=S.L
 ms:S'.ms=S.ms
 dirty:S'.dirty=S.dirty
 N:S'.N≤S.N+3 * c
 ur:∀ p t,UR p t S.p S.t→UR p t S'.p S'.t
 rs:∀ A,Rs A S→Rs A S'
theorem Grow.refl {S:St} (h:Inv S) (c:Nat):Grow S S c:=⟨h,by omega,Nat.le_refl _,by omega,rfl,rfl,rfl,by omega,fun _ _ h=>h,fun _ h=>h⟩
theorem Grow.trans {S T U:St} {c d:Nat} (h:Grow S T c) (k:Grow T U d):Grow S U (c+d) :=
 ⟨k.inv,by have:=h.len;have:=k.len;omega,Nat.le_trans h.mono k.mono,by have:=h.roots;have:=k.roots;omega,k.L.trans h.L,k.ms.trans h.ms,k.dirty.trans h.dirty,by have:=h.N;have:=k.N;omega,fun p t u=>k.ur p t (h.ur p t u),fun A u=>k.rs A (h.rs A u)⟩
theorem Grow.mono' {S T:St} {c d:Nat} (h:Grow S T c) (hd:c≤d):Grow S T d:={ h with len:=by have:=h.len;omega,roots:=by have:=h.roots;omega,N:=by have:=h.N;omega }
theorem addS_eq (S:St) (n:Nd):addS S n=if flawF S n≠0 then (S,0,flawF S n)else match S.ex (keyStr n)with
  | some id=>(S,id,0)
  | none=>(addNew S n,newId S,0):=rfl
theorem addS_ok {S:St} (hi:Inv S) {n:Nd} (hn:n.Ok) (hlen:S.ns.length < 400):Grow S (addS S n).1 1∧((addS S n).2.2=0→0≤(addS S n).2.1∧(addS S n).2.1 < (addS S n).1.ns.length):=by
 rw [addS_eq]
 by_cases hf:flawF S n=0
 ·rw [if_neg (by simpa using hf)]
  cases hex:S.ex (keyStr n)with
  | some id =>
   obtain ⟨m,h0,hm,_⟩:=hi.ic.exn _ _ hex
   exact ⟨Grow.refl hi 1,fun _=>⟨h0,by have:=getElem_lt hm;show id < (S.ns.length:Int);omega⟩⟩
  | none =>
   have hN:NewOk S n:=⟨hn,hf,hex,hlen⟩
   have k:=addNew_ok hi hN
   have hl:(addNew S n).ns.length=S.ns.length+1:=by rw [k.ns,List.length_append];rfl
   refine ⟨⟨k.inv,by show (addNew S n).ns.length≤_;omega,by show _≤(addNew S n).ns.length;omega,k.roots,k.L,k.ms,k.dirty,k.N,k.ur,fun A h=>h.added hi hN k⟩,fun _=>?_⟩
   show 0≤newId S∧newId S < ((addNew S n).ns.length:Int)
   have hid:newId S=((S.ns.length:Nat):Int):=by unfold newId;rw [hi.ic.hp]
   omega
 ·rw [if_pos hf]
  exact ⟨Grow.refl hi 1,fun h=>absurd h hf⟩
theorem flaw_sim {S T:St} (h:Sim S T) (n:Nd):flawF S n=flawF T n:=by
 have e1:argsIn S n=argsIn T n:=by unfold argsIn;rw [h.ns]
 have e2:argW S=argW T:=by funext a;unfold argW;rw [h.ns]
 have e3:bad5 S n=bad5 T n:=by unfold bad5;rw [e2]
 have e4:bad6 S n=bad6 T n:=by unfold bad6 clash;rw [h.vs]
 unfold flawF
 rw [e1,e3,e4]
theorem addS_sim {S T:St} (h:Sim S T) (iS:Inv S) (iT:Inv T) {n:Nd} (hn:n.Ok) (hlen:S.ns.length < 400):Sim (addS S n).1 (addS T n).1∧(addS S n).2=(addS T n).2:=by
 rw [addS_eq,addS_eq,← flaw_sim h,← h.ex]
 by_cases hf:flawF S n=0
 ·rw [if_neg (by simpa using hf),if_neg (by simpa using hf)]
  cases hex:S.ex (keyStr n)with
  | some id=>exact ⟨h,rfl⟩
  | none =>
   refine ⟨addNew_sim h iS iT ⟨hn,hf,hex,hlen⟩,?_⟩
   show (newId S,(0:Int))=(newId T,0)
   unfold newId
   rw [h.p]
 ·rw [if_pos hf,if_pos hf]
  exact ⟨h,rfl⟩
def TermOk:Nat→S35→Prop
 | 0,_=>True
 | k+1,t=>nodeF t=0∧0≤t.f2∧t.f2 < 18446744073709551616∧∀ u∈t.f4,TermOk k u
theorem ndOf_ok {t:S35} (h:nodeF t=0) (h0:0≤t.f2) (h1:t.f2 < 18446744073709551616) {ids:List Int} {n:Nat} (hl:ids.length=t.f4.length) (hid:∀ a∈ids,0≤a∧a < n) (hn:n≤400):(ndOf t ids).Ok:=by
 obtain ⟨h2,h3,h4,h5,h6⟩:=nodeF_ok h
 have ha:arity t.f0≤3:=by
  rcases ops_cases23 h2 with e | e | e | e | e | e | e | e | e | e | e | e | e | e | e | e | e | e | e | e | e | e | e <;> rw [e] <;> decide
 refine ⟨?_,?_,?_,?_,fun a ha'=>?_,?_⟩
 ·show _≤t.f0∧t.f0≤_;omega
 ·show _≤t.f1∧t.f1≤_;omega
 ·show t.f2.toNat < _;omega
 ·show t.f3.size≤_;omega
 ·have:=hid a ha';omega
 ·show ids.length≤_;omega
theorem addL_grow {P:S35→Prop} {f:St→S35→St × Int × Int} {g:St→S35→Prop} {cnt:S35→Nat} {NB:Nat}
  (hf:∀ S t,P t→Inv S→S.ns.length+cnt t≤400→S.N+3 * cnt t≤NB→g S t∧Grow S (f S t).1 (cnt t)∧((f S t).2.2=0→0≤(f S t).2.1∧(f S t).2.1 < (f S t).1.ns.length)) :
  ∀ (l:List S35) (S:St),(∀ u∈l,P u)→Inv S→S.ns.length+countL cnt l≤400→S.N+3 * countL cnt l≤NB →
   AOkL g f S l∧Grow S (addL f S l).1 (countL cnt l)∧((addL f S l).2.2=0→(addL f S l).2.1.length=l.length∧∀ a∈(addL f S l).2.1,0≤a∧a < (addL f S l).1.ns.length):=by
 intro l
 induction l with
 | nil=>intro S _ hi _ _;exact ⟨trivial,Grow.refl hi _,fun _=>⟨rfl,fun a ha=>by cases ha⟩⟩
 | cons u l ih =>
  intro S hP hi hl hN
  have hl:S.ns.length+(cnt u+countL cnt l)≤400:=hl
  have hN:S.N+3 * (cnt u+countL cnt l)≤NB:=hN
  obtain ⟨h1,h2,h3⟩:=hf S u (hP u (List.mem_cons_self ..)) hi (by omega) (by omega)
  have hl2:=h2.len
  have hN2:=h2.N
  obtain ⟨h4,h5,h6⟩:=ih (f S u).1 (fun v hv=>hP v (List.mem_cons_of_mem _ hv)) h2.inv (by omega) (by omega)
  refine ⟨⟨h1,fun _=>h4⟩,?_⟩
  by_cases he:(f S u).2.2=0
  ·rw [addL_step he]
   refine ⟨h2.trans h5,fun hz=>?_⟩
   obtain ⟨q1,q2⟩:=h6 hz
   refine ⟨by show _+1=_+1;rw [q1],fun a ha=>?_⟩
   rcases List.mem_cons.1 ha with rfl | ha
   ·have:=h3 he
    have:=h5.mono
    show 0≤_∧_ < ((addL f (f S u).1 l).1.ns.length:Int)
    omega
   ·exact q2 a ha
  ·rw [addL_stop he]
   exact ⟨h2.mono' (by show _≤cnt u+_;omega),fun hz=>absurd hz he⟩
theorem addL_sim {P:S35→Prop} {f:St→S35→St × Int × Int} {cnt:S35→Nat} {NB:Nat}
  (hf:∀ S t,P t→Inv S→S.ns.length+cnt t≤400→S.N+3 * cnt t≤NB→Grow S (f S t).1 (cnt t))
  (hs:∀ S T t,P t→Sim S T→Inv S→Inv T→S.ns.length+cnt t≤400→S.N+3 * cnt t≤NB→T.N+3 * cnt t≤NB→Sim (f S t).1 (f T t).1∧(f S t).2=(f T t).2) :
  ∀ (l:List S35) (S T:St),(∀ u∈l,P u)→Sim S T→Inv S→Inv T→S.ns.length+countL cnt l≤400→S.N+3 * countL cnt l≤NB→T.N+3 * countL cnt l≤NB→Sim (addL f S l).1 (addL f T l).1∧(addL f S l).2=(addL f T l).2:=by
 intro l
 induction l with
 | nil=>intro S T _ h _ _ _ _ _;exact ⟨h,rfl⟩
 | cons u l ih =>
  intro S T hP h iS iT hl hN hN'
  have hl:S.ns.length+(cnt u+countL cnt l)≤400:=hl
  have hN:S.N+3 * (cnt u+countL cnt l)≤NB:=hN
  have hN':T.N+3 * (cnt u+countL cnt l)≤NB:=hN'
  have hPu:=hP u (List.mem_cons_self ..)
  have g1:=hf S u hPu iS (by omega) (by omega)
  have g2:=hf T u hPu iT (by rw [← h.ns];omega) (by omega)
  obtain ⟨h1,h2⟩:=hs S T u hPu h iS iT (by omega) (by omega) (by omega)
  have a1:=g1.len
  have a2:=g1.N
  have a3:=g2.N
  obtain ⟨h3,h4⟩:=ih _ _ (fun v hv=>hP v (List.mem_cons_of_mem _ hv)) h1 g1.inv g2.inv (by omega) (by omega) (by omega)
  by_cases he:(f S u).2.2=0
  ·have he':(f T u).2.2=0:=by rw [← h2];exact he
   rw [addL_step he,addL_step he']
   refine ⟨h3,?_⟩
   show (_ :: _,_)=(_ :: _,_)
   rw [h2,h4]
  ·have he':¬ (f T u).2.2=0:=by rw [← h2];exact he
   rw [addL_stop he,addL_stop he']
   refine ⟨h1,?_⟩
   show ([],_)=([],_)
   rw [h2]
theorem addT_eq (k:Nat) (S:St) (t:S35):addT (k+1) S t=if (addL (addT k) S t.f4).2.2=0 then addS (addL (addT k) S t.f4).1 (ndOf t (addL (addT k) S t.f4).2.1)else ((addL (addT k) S t.f4).1,0,(addL (addT k) S t.f4).2.2):=rfl
theorem addT_ok:∀ (k:Nat) (S:St) (t:S35),(WF k t∧TermOk k t)→Inv S→S.ns.length+countT k t≤400→S.N+3 * countT k t≤1152921504606800000 →
  AOk k S t∧Grow S (addT k S t).1 (countT k t)∧((addT k S t).2.2=0→0≤(addT k S t).2.1∧(addT k S t).2.1 < (addT k S t).1.ns.length):=by
 intro k
 induction k with
 | zero=>intro S t h;exact h.1.elim
 | succ k ih =>
  intro S t hw hi hl hN
  obtain ⟨hw,hok⟩:=hw
  have hl:S.ns.length+(1+countL (countT k) t.f4)≤400:=hl
  have hN:S.N+3 * (1+countL (countT k) t.f4)≤1152921504606800000:=hN
  obtain ⟨h1,h2,h3⟩:=addL_grow (P:=fun u=>WF k u∧TermOk k u) ih t.f4 S (fun u hu=>⟨hw.2 u hu,hok.2.2.2 u hu⟩) hi (by omega) (by omega)
  have a1:=h2.len
  have a2:=h2.N
  rw [addT_eq]
  by_cases he:(addL (addT k) S t.f4).2.2=0
  ·rw [if_pos he]
   obtain ⟨q1,q2⟩:=h3 he
   have hn:=ndOf_ok hok.1 hok.2.1 hok.2.2.1 q1 q2 (by omega)
   obtain ⟨h4,h5⟩:=addS_ok h2.inv hn (by omega)
   refine ⟨⟨hok.2.1,h1,fun _=>⟨h2.inv.fine (by omega),hn,by omega,?_,by omega⟩⟩,?_,h5⟩
   ·have:=h2.inv.ic.tl
    have:=h2.inv.ic.len
    omega
   ·have:=h2.trans h4
    exact this.mono' (by show _≤1+_;omega)
  ·rw [if_neg he]
   exact ⟨⟨hok.2.1,h1,fun hz=>absurd hz he⟩,h2.mono' (by show _≤1+_;omega),fun hz=>absurd hz he⟩
theorem addT_sim:∀ (k:Nat) (S T:St) (t:S35),(WF k t∧TermOk k t)→Sim S T→Inv S→Inv T→S.ns.length+countT k t≤400→S.N+3 * countT k t≤1152921504606800000→T.N+3 * countT k t≤1152921504606800000→Sim (addT k S t).1 (addT k T t).1∧(addT k S t).2=(addT k T t).2:=by
 intro k
 induction k with
 | zero=>intro S T t h;exact h.1.elim
 | succ k ih =>
  intro S T t hw h iS iT hl hN hN'
  obtain ⟨hw,hok⟩:=hw
  have hl:S.ns.length+(1+countL (countT k) t.f4)≤400:=hl
  have hN:S.N+3 * (1+countL (countT k) t.f4)≤1152921504606800000:=hN
  have hN':T.N+3 * (1+countL (countT k) t.f4)≤1152921504606800000:=hN'
  have hP:∀ u∈t.f4,WF k u∧TermOk k u:=fun u hu=>⟨hw.2 u hu,hok.2.2.2 u hu⟩
  obtain ⟨h1,h2⟩:=addL_sim (P:=fun u=>WF k u∧TermOk k u) (fun S t hp hi hl hN=>(addT_ok k S t hp hi hl hN).2.1) ih t.f4 S T hP h iS iT (by omega) (by omega) (by omega)
  obtain ⟨_,g1,g2⟩:=addL_grow (P:=fun u=>WF k u∧TermOk k u) (addT_ok k) t.f4 S hP iS (by omega) (by omega)
  obtain ⟨_,g3,_⟩:=addL_grow (P:=fun u=>WF k u∧TermOk k u) (addT_ok k) t.f4 T hP iT (by rw [← h.ns];omega) (by omega)
  rw [addT_eq,addT_eq,← h2]
  by_cases he:(addL (addT k) S t.f4).2.2=0
  ·rw [if_pos he,if_pos he]
   obtain ⟨q1,q2⟩:=g2 he
   have a1:=g1.len
   exact addS_sim h1 g1.inv g3.inv (ndOf_ok hok.1 hok.2.1 hok.2.2.1 q1 q2 (by omega)) (by omega)
  ·rw [if_neg he,if_neg he]
   exact ⟨h1,rfl⟩
end Go.Proofs.YtjckhhecnebmmaaGreatDoor.TU
end
section
namespace Go.Proofs.YtjckhhecnebmmaaGreatDoor.TU
open Go.RowKit Go.Proofs.YtjckhhecnebmmaaGreatDoorW.PrintWords Go.Proofs.YtjckhhecnebmmaaGreatDoorW.PrintLast Go.Proofs.YtjckhhecnebmmaaGreatDoorW.PrintMore Go.Proofs.YtjckhhecnebmmaaGreatDoor.QAll
attribute [local go_sem] max2_int min2_int max_two min_two max_three min_three max_four min_four
set_option linter.unusedVariables false
theorem postL_mem {f:S35→List S35}:∀ {l:List S35} {u v:S35},u∈l→v∈f u→v∈postL f l:=by
 intro l
 induction l with
 | nil=>intro u v h;cases h
 | cons a l ih =>
  intro u v h hv
  show v∈f a++postL f l
  rcases List.mem_cons.1 h with rfl | h
  ·exact List.mem_append_left _ hv
  ·exact List.mem_append_right _ (ih h hv)
def Vals (k:Nat) (t:S35):Prop:=∀ u∈postT k t,0≤u.f2∧u.f2 < 18446744073709551616
theorem term_ok:∀ (k:Nat) (t:S35),(∀ u∈postT k t,nodeF u=0)→Vals k t→TermOk k t:=by
 intro k
 induction k with
 | zero=>intro t _ _;exact trivial
 | succ k ih =>
  intro t h hv
  have ht:t∈postT (k+1) t:=List.mem_append_right _ (List.mem_singleton.2 rfl)
  have hs:∀ u∈t.f4,∀ v∈postT k u,v∈postT (k+1) t:=fun u hu v hv=>List.mem_append_left _ (postL_mem hu hv)
  exact ⟨h t ht,(hv t ht).1,(hv t ht).2,fun u hu=>ih u (fun v hw=>h v (hs u hu v hw)) (fun v hw=>hv v (hs u hu v hw))⟩
theorem ck_all:∀ l:List S35,(ckAll l).err=0→∀ u∈l,nodeF u=0:=by
 refine snoc_ind (fun _ u hu=>by cases hu) (fun l a ih h u hu=>?_)
 rw [ckAll_snoc]at h
 unfold ckStep at h
 by_cases h1:(ckAll l).err=0
 ·rw [if_neg (by simpa using h1)]at h
  by_cases h2:nodeF a=0
  ·rcases List.mem_append.1 hu with h3 | h3
   ·exact ih h1 u h3
   ·rw [List.mem_singleton.1 h3];exact h2
  ·rw [if_pos h2]at h
   exact absurd h h2
 ·rw [if_pos h1]at h
  exact absurd h h1
theorem check_ok {k:Nat} {t:S35} (h:checkF k t=0) (hv:Vals k t):TermOk k t:=by
 refine term_ok k t (ck_all _ ?_) hv
 unfold checkF at h
 split at h
 ·exact h
 ·rename_i h1;simpa using h1
structure EvGood (e:Ev):Prop where
 k4:e.kind≠4
 k5:e.kind≠5
 wf:WF 7 e.t
 few:countT 7 e.t≤7
 vals:Vals 7 e.t
structure Ste (S S':St) (m m' c:Nat):Prop where
 inv:Inv S'
 mono:S.ns.length≤S'.ns.length
 len:S'.ns.length≤S.ns.length+7 * c
 m:m'+roots S'.p≤m+roots S.p+14 * c
 L:S'.L=S.L
 ms:S'.ms=S.ms
 N:S'.N≤S.N+252000021 * c
 ur:∀ p t,UR p t S.p S.t→UR p t S'.p S'.t
 rs:∀ A,Rs A S→Rs A S'
theorem Ste.refl {S:St} (h:Inv S) (m:Nat):Ste S S m m 0:=⟨h,Nat.le_refl _,by omega,by omega,rfl,rfl,by omega,fun _ _ h=>h,fun _ h=>h⟩
theorem Ste.one {S:St} (h:Inv S) (m m':Nat) (hm:m'≤m+14):Ste S S m m' 1:=⟨h,Nat.le_refl _,by omega,by omega,rfl,rfl,by omega,fun _ _ h=>h,fun _ h=>h⟩
theorem Ste.trans {S T U:St} {m m' m'' c d:Nat} (h:Ste S T m m' c) (k:Ste T U m' m'' d):Ste S U m m'' (c+d) :=
 ⟨k.inv,Nat.le_trans h.mono k.mono,by have:=h.len;have:=k.len;omega,by have:=h.m;have:=k.m;omega,k.L.trans h.L,k.ms.trans h.ms,by have:=h.N;have:=k.N;omega,fun p t u=>k.ur p t (h.ur p t u),fun A u=>k.rs A (h.rs A u)⟩
theorem Grow.ste {S T:St} {c m:Nat} (h:Grow S T c) (hc:c≤7):Ste S T m (m+c) 1:=⟨h.inv,h.mono,by have:=h.len;omega,by have:=h.roots;omega,h.L,h.ms,by have:=h.N;omega,h.ur,h.rs⟩
theorem union_cases (S:St) (x y:Int) (h:Inv S):(unionS S x y (-3)).1=S∨(0≤x∧x < S.ns.length∧0≤y∧y < S.ns.length∧fnd S.p x≠fnd S.p y∧(unionS S x y (-3)).1={ joinS S x y with dirty:=true }):=by
 unfold unionS
 rw [if_neg (by omega)]
 by_cases h2:¬ (inB S.p x=true∧inB S.p y=true)
 ·rw [if_pos h2];exact .inl rfl
 ·rw [if_neg h2]
  split
  ·exact .inl rfl
  ·by_cases h4:fnd S.p x=fnd S.p y
   ·rw [if_pos h4];exact .inl rfl
   ·rw [if_neg h4]
    have h2:inB S.p x=true∧inB S.p y=true:=Classical.not_not.1 h2
    have hp:=h.ic.hp
    unfold inB at h2
    simp at h2
    exact .inr ⟨by omega,by omega,by omega,by omega,h4,rfl⟩
theorem Inv.dirt {S:St} (h:Inv S) (d:Bool):Inv { S with dirty:=d }:=⟨{ h.ic with },h.it⟩
theorem union_ste {S:St} (h:Inv S) (x y:Int) (m:Nat):Ste S (unionS S x y (-3)).1 m (m+1) 1:=by
 rcases union_cases S x y h with e | ⟨hx0,hx1,hy0,hy1,hne,e⟩
 ·rw [e];exact Ste.one h m _ (by omega)
 ·rw [e]
  have hp:=h.ic.hp
  have hj:=join_roots h.ic.well (by omega:0≤x∧x < S.p.length) (by omega:0≤y∧y < S.p.length) hne
  have hk:=kept_join h.ic.well (by omega:0≤x∧x < S.p.length) (by omega:0≤y∧y < S.p.length)
  exact ⟨(h.joinS ⟨hx0,hx1⟩ ⟨hy0,hy1⟩ hne).dirt true,Nat.le_refl _,Nat.le_add_right _ _,by have:=hj.1;show m+1+roots (joinS S x y).p≤_;omega,rfl,rfl,Nat.le_add_right _ _,hk.ur,fun A u=>u.four ⟨rfl,rfl,rfl,rfl⟩⟩
theorem reb_ste {S:St} (h:Inv S) (hN:S.N+252000000≤1152921504606846000) (m:Nat):RebOk 700 S∧Ste S (rebS 700 S).1 m (m+(rebN 700 S).2.toNat) 1∧(rebN 700 S).2.toNat≤roots S.p:=by
 have hl:=h.ic.len
 have ht:=h.ic.todo
 obtain ⟨h1,h2⟩:=rebN_ok 700 S h (by omega) (by omega)
 have hj:=h2.joins
 have hNN:=h2.N
 have hk:=h2.kept
 have h0:=(rebN_joins 700 S)
 refine ⟨h1,⟨h2.inv.dirt false,?_,?_,?_,hk.L,hk.ms,?_,hk.ur,fun A u=>u.four ⟨hk.ns,hk.us,hk.ex,hk.vs⟩⟩,by omega⟩
 ·show _≤(rebN 700 S).1.ns.length;rw [hk.ns];exact Nat.le_refl _
 ·show (rebN 700 S).1.ns.length≤_;rw [hk.ns];omega
 ·show _+roots (rebN 700 S).1.p≤_;omega
 ·show (rebN 700 S).1.N≤_;omega
theorem addTerm_st (S:St) (t:S35):(addTermS S t).1=if checkF 7 t≠0 then S else (addT 7 S t).1:=by
 unfold addTermS
 split
 ·rfl
 ·split <;> rfl
theorem evS_ok {S:St} {e:Ev} (h:Inv S) (he:EvGood e) {m:Nat} (hl:S.ns.length+7≤400) (hm:m+roots S.p+14≤790) (hN:S.N+252000021≤1152921504606800000):EvOk S m e∧Ste S (evS S e).1 m (m+evCost S e) 1:=by
 have hf:Fine S:=h.fine (by omega)
 have hA:checkF 7 e.t=0→AOk 7 S e.t∧Grow S (addT 7 S e.t).1 (countT 7 e.t):=fun hc=>by
  have:=he.few
  obtain ⟨a,b,_⟩:=addT_ok 7 S e.t ⟨he.wf,check_ok hc he.vals⟩ h (by omega) (by omega)
  exact ⟨a,b⟩
 have hR:=reb_ste h (by omega) m
 have hfew:=he.few
 by_cases h1:e.kind=1
 ·have e2:evCost S e=countT 7 e.t:=if_pos h1
  have e1:evS S e=addTermS S e.t:=if_pos h1
  refine ⟨⟨hf,fun _=>⟨by omega,fun hc=>(hA hc).1⟩,fun h3=>by omega,by omega⟩,?_⟩
  rw [e1,e2,addTerm_st]
  by_cases hc:checkF 7 e.t=0
  ·rw [if_neg (by simpa using hc)];exact (hA hc).2.ste hfew
  ·rw [if_pos hc];exact Ste.one h m _ (by omega)
 by_cases h2:e.kind=2
 ·have e2:evCost S e=1:=by unfold evCost;rw [if_neg h1,if_pos h2]
  have e1:(evS S e).1=(unionS S e.a e.b (-3)).1:=by unfold evS;rw [if_neg h1,if_pos h2]
  refine ⟨⟨hf,fun h=>absurd h h1,fun h3=>by omega,by omega⟩,?_⟩
  rw [e1,e2]
  exact union_ste h _ _ m
 by_cases h3:e.kind=3
 ·have e2:evCost S e=(rebN 700 S).2.toNat:=by unfold evCost;rw [if_neg h1,if_neg h2,if_pos h3]
  have e1:(evS S e).1=(rebS 700 S).1:=by unfold evS;rw [if_neg h1,if_neg h2,if_pos h3]
  refine ⟨⟨hf,fun h=>absurd h h1,fun _=>hR.1,by rw [e2];have:=hR.2.2;omega⟩,?_⟩
  rw [e1,e2]
  exact hR.2.1
 ·have e2:evCost S e=0:=by unfold evCost;rw [if_neg h1,if_neg h2,if_neg h3]
  have e1:(evS S e).1=S:=by unfold evS;rw [if_neg h1,if_neg h2,if_neg h3]
  refine ⟨⟨hf,fun h=>absurd h h1,fun h=>absurd h h3,by omega⟩,?_⟩
  rw [e1,e2]
  exact Ste.one h m _ (by omega)
theorem union_sim {S T:St} (h:Sim S T) (x y:Int):Sim (unionS S x y (-3)).1 (unionS T x y (-3)).1∧(unionS S x y (-3)).2=(unionS T x y (-3)).2:=by
 unfold unionS
 rw [← h.p,← h.ns]
 by_cases h1:(-3:Int)=-1
 ·omega
 ·rw [if_neg h1,if_neg h1]
  by_cases h2:¬ (inB S.p x=true∧inB S.p y=true)
  ·rw [if_pos h2,if_pos h2];exact ⟨h,rfl⟩
  ·rw [if_neg h2,if_neg h2]
   split
   ·exact ⟨h,rfl⟩
   ·split
    ·exact ⟨h,rfl⟩
    ·exact ⟨{ h.join x y x y rfl rfl with dirty:=rfl },rfl⟩
theorem evS_sim {S T:St} {e:Ev} (h:Sim S T) (iS:Inv S) (iT:Inv T) (he:EvGood e) (hl:S.ns.length+7≤400) (hN:S.N+252000021≤1152921504606800000) (hN':T.N+252000021≤1152921504606800000):Sim (evS S e).1 (evS T e).1∧(evS S e).2=(evS T e).2:=by
 have hfew:=he.few
 unfold evS
 by_cases h1:e.kind=1
 ·rw [if_pos h1,if_pos h1]
  have hpos:∀ S,checkF 7 e.t=0→addTermS S e.t=if (addT 7 S e.t).2.2≠0 then ((addT 7 S e.t).1,0,(addT 7 S e.t).2.2)else ((addT 7 S e.t).1,(addT 7 S e.t).2.1,0):=fun S hc=>if_neg (by simpa using hc)
  have hneg:∀ S,checkF 7 e.t≠0→addTermS S e.t=(S,0,checkF 7 e.t):=fun S hc=>if_pos hc
  by_cases hc:checkF 7 e.t=0
  ·rw [hpos S hc,hpos T hc]
   obtain ⟨q1,q2⟩:=addT_sim 7 S T e.t ⟨he.wf,check_ok hc he.vals⟩ h iS iT (by omega) (by omega) (by omega)
   rw [← q2]
   split
   ·exact ⟨q1,rfl⟩
   ·exact ⟨q1,rfl⟩
  ·rw [hneg S hc,hneg T hc];exact ⟨h,rfl⟩
 rw [if_neg h1,if_neg h1]
 by_cases h2:e.kind=2
 ·rw [if_pos h2,if_pos h2]
  obtain ⟨q1,q2⟩:=union_sim h e.a e.b
  rw [← q2]
  exact ⟨q1,rfl⟩
 rw [if_neg h2,if_neg h2]
 by_cases h3:e.kind=3
 ·rw [if_pos h3,if_pos h3]
  obtain ⟨q1,q2⟩:=rebN_sim 700 S T h iS iT (by omega) (by omega)
  refine ⟨{ q1 with dirty:=rfl },?_⟩
  show ((rebN 700 S).2,(0:Int))=((rebN 700 T).2,0)
  rw [q2]
 ·rw [if_neg h3,if_neg h3];exact ⟨h,rfl⟩
end Go.Proofs.YtjckhhecnebmmaaGreatDoor.TU
end
section
namespace Go.Proofs.YtjckhhecnebmmaaGreatDoor.TU
open Go.RowKit Go.Proofs.YtjckhhecnebmmaaGreatDoorW.PrintWords Go.Proofs.YtjckhhecnebmmaaGreatDoorW.PrintLast Go.Proofs.YtjckhhecnebmmaaGreatDoorW.PrintMore Go.Proofs.YtjckhhecnebmmaaGreatDoor.QAll
attribute [local go_sem] max2_int min2_int max_two min_two max_three min_three max_four min_four
set_option linter.unusedVariables false
structure Room (S:St) (m c:Nat):Prop where
 len:S.ns.length+7 * c≤400
 m:m+roots S.p+14 * c≤790
 N:S.N+252000021 * c≤1152921504606800000
theorem Room.on {S S':St} {m m' c d:Nat} (h:Room S m (c+d)) (k:Ste S S' m m' c):Room S' m' d:=⟨by have:=h.len;have:=k.len;omega,by have:=h.m;have:=k.m;omega,by have:=h.N;have:=k.N;omega⟩
theorem Room.le {S:St} {m c d:Nat} (h:Room S m c) (hd:d≤c):Room S m d:=⟨by have:=h.len;omega,by have:=h.m;omega,by have:=h.N;omega⟩
theorem plAt_ok {S:St} {m:Nat} {l:List Ev} (hi:Inv S) (hg:∀ e∈l,EvGood e) (hr:Room S m l.length):∀ i,i≤l.length→Ste S (plAt S m l i).1 m (plAt S m l i).2.2 i∧(∀ (h:i < l.length),EvOk (plAt S m l i).1 (plAt S m l i).2.2 l[i]):=by
 intro i
 induction i with
 | zero =>
  intro _
  refine ⟨Ste.refl hi m,fun h=>?_⟩
  have r1:=hr.le (show 1≤l.length by omega)
  exact (evS_ok (m:=m) hi (hg _ (List.getElem_mem h)) (by have:=r1.len;omega) (by have:=r1.m;omega) (by have:=r1.N;omega)).1
 | succ i ih =>
  intro h
  obtain ⟨h1,_⟩:=ih (by omega)
  have r1:=(hr.le (show i+1≤l.length from h)).on h1
  have h2:=(evS_ok h1.inv (hg _ (List.getElem_mem (show i < l.length by omega))) (by have:=r1.len;omega) (by have:=r1.m;omega) (by have:=r1.N;omega)).2
  have h3:Ste S (plAt S m l (i+1)).1 m (plAt S m l (i+1)).2.2 (i+1):=by
   rw [plAt_succ S m l i (by omega)]
   exact h1.trans h2
  refine ⟨h3,fun h'=>?_⟩
  have r2:=(hr.le (show i+1+1≤l.length from h')).on h3
  exact (evS_ok h3.inv (hg _ (List.getElem_mem h')) (by have:=r2.len;omega) (by have:=r2.m;omega) (by have:=r2.N;omega)).1
theorem play_ok {S:St} {m:Nat} {l:List Ev} (hi:Inv S) (hg:∀ e∈l,EvGood e) (hr:Room S m l.length):PlOk S m l∧Ste S (plAt S m l l.length).1 m (plAt S m l l.length).2.2 l.length :=
 ⟨fun i h=>⟨(hg _ (List.getElem_mem h)).k4,(hg _ (List.getElem_mem h)).k5,(plAt_ok hi hg hr i (by omega)).2 h⟩,(plAt_ok hi hg hr l.length (Nat.le_refl _)).1⟩
theorem plAt_sim {S T:St} {m n:Nat} {l:List Ev} (h:Sim S T) (iS:Inv S) (iT:Inv T) (hg:∀ e∈l,EvGood e) (hr:Room S m l.length) (hr':Room T n l.length):∀ i,i≤l.length→Sim (plAt S m l i).1 (plAt T n l i).1∧(plAt S m l i).2.1=(plAt T n l i).2.1:=by
 intro i
 induction i with
 | zero=>intro _;exact ⟨h,rfl⟩
 | succ i ih =>
  intro hil
  obtain ⟨h1,h2⟩:=ih (by omega)
  have s1:=(plAt_ok iS hg hr i (by omega)).1
  have s2:=(plAt_ok iT hg hr' i (by omega)).1
  have r1:=(hr.le (show i+1≤l.length from hil)).on s1
  have r2:=(hr'.le (show i+1≤l.length from hil)).on s2
  obtain ⟨h3,h4⟩:=evS_sim h1 s1.inv s2.inv (hg _ (List.getElem_mem (show i < l.length by omega))) (by have:=r1.len;omega) (by have:=r1.N;omega) (by have:=r2.N;omega)
  rw [plAt_succ S m l i (by omega),plAt_succ T n l i (by omega)]
  refine ⟨h3,?_⟩
  show (if _ then _ else _:List Int)=if _ then _ else _
  rw [h2,h4]
theorem inv0:Inv st0:=by
 refine ⟨⟨rfl,rfl,rfl,fun x h0 h1=>?_,?_,?_,?_,?_,?_,?_,?_,?_,?_,?_,?_,?_,?_,?_⟩,?_,?_⟩
 ·have:x < ((0:Nat):Int):=h1;omega
 ·intro n h;cases h
 ·intro i n h;cases h
 ·intro n h;cases h
 ·intro i n h;cases h
 ·intro k id h;cases h
 ·intro l v h;cases h
 ·intro u h;cases h
 ·intro n h;cases h
 ·intro n h;cases h
 ·intro i k n h;cases h
 ·exact Nat.le_refl 0
 ·exact Nat.le_refl 0
 ·exact Nat.zero_le _
 ·exact Nat.zero_le _
 ·intro s y h;cases h
 ·intro i k h;cases h
theorem roots0:roots st0.p=0:=rfl
end Go.Proofs.YtjckhhecnebmmaaGreatDoor.TU
end
section
namespace Go.Proofs.YtjckhhecnebmmaaGreatDoor.TU
open Go.RowKit Go.Proofs.YtjckhhecnebmmaaGreatDoorW.PrintWords Go.Proofs.YtjckhhecnebmmaaGreatDoorW.PrintLast Go.Proofs.YtjckhhecnebmmaaGreatDoorW.PrintMore Go.Proofs.YtjckhhecnebmmaaGreatDoor.QAll
attribute [local go_sem] max2_int min2_int max_two min_two max_three min_three max_four min_four
set_option linter.unusedVariables false
theorem keysTab_ok:∀ l:List Nd,(∀ s y,keysTab l 0 (fun _=>none) s=some y→0≤y∧∃ k,l[y.toNat]?=some k∧keyStr k=s)∧∀ k∈l,∃ y,keysTab l 0 (fun _=>none) (keyStr k)=some y:=by
 refine snoc_ind (And.intro (fun s y h=>(by cases h)) (fun k hk=>(by cases hk))) (fun l a ih=>?_)
 obtain ⟨h1,h2⟩:=ih
 have up:∀ s y,keysTab l 0 (fun _=>none) s=some y→0≤y∧∃ k,(l++[a])[y.toNat]?=some k∧keyStr k=s:=fun s y h=>by
  obtain ⟨h0,k,hk,hs⟩:=h1 s y h
  exact ⟨h0,k,by rw [getElem_snoc_lt (getElem_lt hk)];exact hk,hs⟩
 rw [keysTab_snoc]
 cases hsome:keysTab l 0 (fun _=>none) (keyStr a)with
 | some z =>
  simp only [Option.isSome_some,if_true]
  refine ⟨up,fun k hk=>?_⟩
  rcases List.mem_append.1 hk with h | h
  ·exact h2 k h
  ·rw [List.mem_singleton.1 h];exact ⟨z,hsome⟩
 | none =>
  rw [if_neg (by simp)]
  constructor
  ·intro s y h
   unfold putT at h
   split at h
   ·rename_i hs
    injection h with h
    refine ⟨by omega,a,?_,hs.symm⟩
    have:y.toNat=l.length:=by omega
    rw [this,List.getElem?_append_right (Nat.le_refl _),Nat.sub_self];rfl
   ·exact up s y h
  ·intro k hk
   unfold putT
   split
   ·exact ⟨_,rfl⟩
   ·rename_i hs
    rcases List.mem_append.1 hk with h | h
    ·exact h2 k h
    ·rw [List.mem_singleton.1 h]at hs;exact absurd rfl hs
theorem IT.again {p:List Int} {ks:List Nd} {tab:ByteArray→Option Int} (h:IT p ks tab):IT p ks (keysTab ks 0 (fun _=>none)):=by
 obtain ⟨h1,h2⟩:=keysTab_ok ks
 refine ⟨h1,fun i k hk hr=>?_⟩
 obtain ⟨y,hy⟩:=h2 k (List.mem_of_getElem? hk)
 obtain ⟨h0,k',hk',hs⟩:=h1 _ _ hy
 have:=keyStr_inj hs
 subst this
 obtain ⟨z,hz,e1⟩:=h.j i k' hk hr
 obtain ⟨z',hz',e2⟩:=h.j y.toNat k' hk' hr
 rw [hz]at hz'
 injection hz' with hz'
 subst hz'
 refine ⟨y,hy,?_⟩
 rw [← e1,e2]
 congr 1
 omega
theorem IC.sim {S T:St} (h:IC S) (k:Sim S T) (hL:T.L.length≤800):IC T:=by
 obtain ⟨ns,ks,us,p,t,ex,tab,vs,L,todo,dirty,ms,N⟩:=T
 obtain ⟨k1,k2,k3,k4,k5,k6,k7,k8,k9⟩:=k
 simp only at k1 k2 k3 k4 k5 k6 k7 k8 k9
 subst k1 k2 k3 k4 k5 k6 k7 k8
 exact { h with hL:=hL }
structure DI (S:St):Prop where
 hk:S.ks.length=S.ns.length
 hu:S.us.length=S.ns.length
 few:S.ns.length≤400
 no:∀ n∈S.ns,n.Ok
 ain:∀ (i:Nat) (n:Nd),S.ns[i]?=some n→∀ a∈n.args,0≤a∧a < i
 ul:∀ u∈S.us,u.length≤600
theorem DI.drop {S:St} (h:DI S) {m:Nat} (hm:S.ns.length=m+1):DropOk S m (S.ns.getD m zNd)∧DI (dropS S m)∧(dropS S m).ns.length=m:=by
 have hat:S.ns[m]?=some (S.ns.getD m zNd):=by rw [List.getD_eq_getElem?_getD,List.getElem?_eq_getElem (by omega)];rfl
 have hl:(dropS S m).ns.length=m:=by show (S.ns.take m).length=m;rw [List.length_take];omega
 refine ⟨⟨hm,by rw [h.hk,hm],by rw [h.hu,hm],by have:=h.few;omega,rfl,h.no _ (List.mem_of_getElem? hat),fun a ha=>by have:=h.ain m _ hat a ha;omega,h.ul⟩,⟨?_,?_,?_,?_,?_,?_⟩,hl⟩
 ·rw [hl];show (S.ks.take m).length=m;rw [List.length_take,h.hk];omega
 ·rw [hl];show ((cutAll S.us m (S.ns.getD m zNd).args).take m).length=m;rw [List.length_take,cutAll_length,h.hu];omega
 ·rw [hl];have:=h.few;omega
 ·intro n hn;exact h.no n (List.mem_of_mem_take hn)
 ·intro i n hn
  have hn:(S.ns.take m)[i]?=some n:=hn
  rw [List.getElem?_take]at hn
  split at hn
  ·exact h.ain i n hn
  ·cases hn
 ·intro u hu
  exact cutAll_bound m 600 _ _ h.ul u (List.mem_of_mem_take hu)
theorem DI.drops:∀ (c:Nat) (S:St),DI S→c≤S.ns.length→DropsOk c S:=by
 intro c
 induction c with
 | zero=>intro S _ _;exact trivial
 | succ c ih =>
  intro S h hc
  obtain ⟨h1,h2,h3⟩:=h.drop (m:=S.ns.length - 1) (by omega)
  exact ⟨h1,ih _ h2 (by omega)⟩
structure Rest (S T:St):Prop where
 p:S.p=T.p
 t:S.t=T.t
 L:S.L=T.L
 N:S.N=T.N
 ms:S.ms=T.ms
theorem dropN_rest:∀ (c:Nat) (S:St),Rest (dropN c S) S:=by
 intro c
 induction c with
 | zero=>intro S;exact ⟨rfl,rfl,rfl,rfl,rfl⟩
 | succ c ih =>
  intro S
  obtain ⟨h1,h2,h3,h4,h5⟩:=ih (dropS S (S.ns.length - 1))
  exact ⟨h1,h2,h3,h4,h5⟩
def mkOf (A:St) (n:Nat):Mk:=⟨A.ns.length,n,A.t.length,A.ks,A.todo,A.dirty⟩
theorem markS_eq (A:St) (n:Nat):markS A n={ A with ms:=A.ms++[mkOf A n] }:=rfl
theorem Inv.mark {A:St} (h:Inv A) (n:Nat):Inv (markS A n):=⟨{ h.ic with },h.it⟩
theorem undo_ok {A B:St} (iA:Inv A) (hms:A.ms=[]) {n:Nat} (hn:n≤800) {m m' c:Nat} (s:Ste (markS A n) B m m' c) (hN:B.N≤1152921504606800000) {L:List S117} (hL:L.length≤800) :
  UndoOk (withL B L) (mkOf A n) 0∧Sim A (undoS (withL B L) (mkOf A n) 0)∧Inv (undoS (withL B L) (mkOf A n) 0)∧(undoS (withL B L) (mkOf A n) 0).N=B.N+A.ks.length:=by
 have iB:=s.inv
 have hmsB:B.ms=[mkOf A n]:=by rw [s.ms,markS_eq,hms];rfl
 obtain ⟨cc,hc1,hc2⟩:=s.rs A ((Rs.refl A).four ⟨rfl,rfl,rfl,rfl⟩)
 obtain ⟨q,hq1,hq2,hq3,hq4⟩:=s.ur A.p A.t (UR.refl A.p A.t)
 have hcc:B.ns.length - A.ns.length=cc:=by omega
 have hqq:B.t.length - A.t.length=q:=by omega
 have hlB:=iB.ic.len
 have htB:=iB.ic.tl
 have hlA:=iA.ic.len
 have hR:=dropN_rest cc { withL B L with ms:=(withL B L).ms.take 0 }
 have hF:Four (dropN cc { withL B L with ms:=(withL B L).ms.take 0 }) A:=Four.trans (Four.dropN cc (S:={ withL B L with ms:=(withL B L).ms.take 0 }) (T:=B) ⟨rfl,rfl,rfl,rfl⟩) hc2
 have eA:unA (withL B L) (mkOf A n) 0=dropN cc { withL B L with ms:=(withL B L).ms.take 0 }:=by unfold unA;show dropN (B.ns.length - A.ns.length) _=_;rw [hcc]
 have hp:(unA (withL B L) (mkOf A n) 0).p=B.p:=by rw [eA];exact hR.p
 have ht:(unA (withL B L) (mkOf A n) 0).t=B.t:=by rw [eA];exact hR.t
 have hNN:(unA (withL B L) (mkOf A n) 0).N=B.N:=by rw [eA];exact hR.N
 have hLL:(unA (withL B L) (mkOf A n) 0).L=L:=by rw [eA];exact hR.L
 have hsim:Sim A (undoS (withL B L) (mkOf A n) 0):=by
  refine ⟨?_,rfl,?_,?_,?_,?_,?_,rfl,rfl⟩
  ·show A.ns=(unA (withL B L) (mkOf A n) 0).ns;rw [eA];exact hF.ns.symm
  ·show A.us=(unA (withL B L) (mkOf A n) 0).us;rw [eA];exact hF.us.symm
  ·show A.p=und (unA (withL B L) (mkOf A n) 0).p (unA (withL B L) (mkOf A n) 0).t ((unA (withL B L) (mkOf A n) 0).t.length - A.t.length);rw [hp,ht,hqq];exact hq3.symm
  ·show A.t=(unA (withL B L) (mkOf A n) 0).t.take A.t.length;rw [ht];exact hq2.symm
  ·show A.ex=(unA (withL B L) (mkOf A n) 0).ex;rw [eA];exact hF.ex.symm
  ·show A.vs=(unA (withL B L) (mkOf A n) 0).vs;rw [eA];exact hF.vs.symm
 refine ⟨⟨?_,?_,?_,?_,?_,?_,?_,?_,?_,?_,?_,?_,?_,?_,?_,?_⟩,hsim,⟨iA.ic.sim hsim ?_,?_⟩,?_⟩
 ·show B.ns.length≤600;omega
 ·show B.ms[0]?=_;rw [hmsB];rfl
 ·show B.ms.length≤_;rw [hmsB];show 1≤1000000;decide
 ·show A.ns.length≤B.ns.length;omega
 ·refine DI.drops _ _ ⟨iB.ic.hk,iB.ic.hu,iB.ic.len,iB.ic.no,iB.ic.ain,fun u hu=>?_⟩ (Nat.sub_le _ _)
  have:=(iB.ic.us u hu).1
  omega
 ·rw [hp,iB.ic.hp];omega
 ·rw [ht];omega
 ·rw [ht];show A.t.length≤_;omega
 ·rw [hp,ht];show Safe B.p B.t (B.t.length - A.t.length);rw [hqq];exact hq4
 ·show L.length≤900;omega
 ·exact hn
 ·show A.ks.length≤600;rw [iA.ic.hk];omega
 ·exact iA.ic.ko
 ·show A.todo.length≤_;have:=iA.ic.todo;omega
 ·rw [hNN];exact hN
 ·exact hLL
 ·show (unA (withL B L) (mkOf A n) 0).L.length≤800;rw [hLL];exact hL
 ·rw [← hsim.p,← hsim.ks];exact iA.it.again
 ·show (unA (withL B L) (mkOf A n) 0).N+_=_;rw [hNN];rfl
end Go.Proofs.YtjckhhecnebmmaaGreatDoor.TU
end

/- Steps towards the law TopUndoes; words printed by the kit, and printed texts, are cut to what is used, and spaces are left out. No condition. -/
import Derived.Test.YtjckhhecnebmmaaGreatDoorZ21
import Derived.Test.YtjckhhecnebmmaaGreatDoorZ22
import Derived.Test.YtjckhhecnebmmaaGreatDoorZ13
set_option linter.unusedVariables false
set_option linter.unusedSimpArgs false
section
namespace Go.Proofs.YtjckhhecnebmmaaGreatDoor.TU
open Go.RowKit Go.Proofs.YtjckhhecnebmmaaGreatDoorW.PrintWords Go.Proofs.YtjckhhecnebmmaaGreatDoorW.PrintLast Go.Proofs.YtjckhhecnebmmaaGreatDoorW.PrintMore Go.Proofs.YtjckhhecnebmmaaGreatDoor.QAll
attribute [local go_sem] max2_int min2_int max_two min_two max_three min_three max_four min_four
set_option linter.unusedVariables false
def tcells (t:S35) (A:Option Addr) (c:Nat):Array Value:=#[.int .i64 t.f0,.int .i64 t.f1,.int .u64 t.f2,.string t.f3,.slice A t.f4.length c]
def countL (f:S35→Nat):List S35→Nat
 | []=>0
 | u :: l=>f u+countL f l
def countT:Nat→S35→Nat
 | 0,_=>0
 | k+1,t=>1+countL (countT k) t.f4
def WF:Nat→S35→Prop
 | 0,_=>False
 | n+1,t=>t.f4.length≤9223372036854775807∧∀ u∈t.f4,WF n u
theorem TIn.wf {w:World} {o:Own}:∀ (n:Nat) (A:Option Addr) (l:List S35),TIn w o n A l→∀ u∈l,WF n u:=by
 intro n
 induction n with
 | zero=>intro A l h u hu;rw [show l=[]from h]at hu;cases hu
 | succ n ih =>
  intro A l h u hu
  obtain ⟨i,hi,rfl⟩:=List.getElem_of_mem hu
  obtain ⟨ad,Ai,ci,_,_,_,_,_,_,_,_,_,hn⟩:=h.2 i _ (List.getElem?_eq_getElem hi)
  refine ⟨?_,fun u hu=>ih Ai _ hn u hu⟩
  have:=(TIn.C _ _ _ hn).2.1
  exact this
theorem TIn.wf' {w:World} {o:Own} {n:Nat} {A:Option Addr} {t:S35} (h:TIn w o n A t.f4):WF (n+1) t:=⟨(TIn.C _ _ _ h).2.1,fun u hu=>TIn.wf n A _ h u hu⟩
theorem countL_mem {f:S35→Nat}:∀ {l:List S35} {u:S35},u∈l→f u≤countL f l:=by
 intro l
 induction l with
 | nil=>intro u h;cases h
 | cons v l ih =>
  intro u h
  rcases List.mem_cons.1 h with rfl | h
  ·show f u≤f u+countL f l;omega
  ·have:=ih h;show f u≤f v+countL f l;omega
theorem countT_pos:∀ (n:Nat) (t:S35),WF n t→1≤countT n t
 | 0,_,h=>h.elim
 | n+1,t,_=>by show 1≤1+countL (countT n) t.f4;omega
theorem countL_ge (n:Nat):∀ l:List S35,(∀ u∈l,WF n u)→l.length≤countL (countT n) l:=by
 intro l
 induction l with
 | nil=>intro _;exact Nat.le_refl _
 | cons u l ih =>
  intro h
  have h1:=countT_pos n u (h u (List.mem_cons_self ..))
  have h2:=ih (fun v hv=>h v (List.mem_cons_of_mem _ hv))
  show l.length+1≤countT n u+countL (countT n) l
  omega
theorem countL_drop {f:S35→Nat} {l:List S35} {j:Nat} (h:j < l.length):countL f (l.drop j)=f l[j] + countL f (l.drop (j+1)):=by
 rw [List.drop_eq_getElem_cons h];rfl
theorem rd_at {l:List S35} {j:Nat} (h:j < l.length):rd_T35 l (j:Int)=l[j]:=by
 unfold rd_T35
 rw [Int.toNat_natCast,List.getD_eq_getElem?_getD,List.getElem?_eq_getElem h]
 rfl
theorem w64n {j:Nat} (h:j < 9223372036854775807):wrap64 ((j:Int)+1)=((j+1:Nat):Int):=by
 unfold wrap64;omega
theorem w64i {x:Int} (h1:-9223372036854775808≤x) (h2:x≤9223372036854775807):wrap64 x=x:=by unfold wrap64;omega
theorem copy_f:∀ (n:Nat) (t:S35),WF n t→countT n t≤1000→∃ K,term_Copy.f K t.f0 t.f1 t.f2 t.f3 t.f4=some (t.f0,t.f1,t.f2,t.f3,t.f4):=by
 intro n
 induction n with
 | zero=>intro t h;exact h.elim
 | succ n ih =>
  intro t hw hc
  have hc:1+countL (countT n) t.f4≤1000:=hc
  have hlen:=countL_ge n t.f4 hw.2
  have loop:∀ (m j:Nat),j+m=t.f4.length→∃ K,term_Copy.l0 K t.f4 (t.f4.length:Int) (j:Int) t.f0 t.f1 t.f2 t.f3 (t.f4.take j)=some (t.f0,t.f1,t.f2,t.f3,t.f4):=by
   intro m
   induction m with
   | zero =>
    intro j hj
    obtain rfl:j=t.f4.length:=by omega
    exact ⟨1,by simp [term_Copy.l0]⟩
   | succ m ihm =>
    intro j hj
    have hlt:j < t.f4.length:=by omega
    obtain ⟨K1,h1⟩:=ihm (j+1) (by omega)
    obtain ⟨K2,h2⟩:=ih t.f4[j] (hw.2 _ (List.getElem_mem hlt)) (by have:=countL_mem (f:=countT n) (List.getElem_mem hlt);omega)
    have g1:term_Copy.l0 (K1+K2) t.f4 (t.f4.length:Int) ((j+1:Nat):Int) t.f0 t.f1 t.f2 t.f3 (t.f4.take (j+1))=some (t.f0,t.f1,t.f2,t.f3,t.f4):=at_rounds (g:=fun k=>term_Copy.l0 k t.f4 (t.f4.length:Int) ((j+1:Nat):Int) t.f0 t.f1 t.f2 t.f3 (t.f4.take (j+1))) (fun k=>(term_Copy.mono_l k).2 _ _ _ _ _ _ _ _) (Nat.le_add_right K1 K2) h1
    have g2:term_Copy.f (K1+K2) t.f4[j].f0 t.f4[j].f1 t.f4[j].f2 t.f4[j].f3 t.f4[j].f4=some (t.f4[j].f0,t.f4[j].f1,t.f4[j].f2,t.f4[j].f3,t.f4[j].f4):=at_rounds (g:=fun k=>term_Copy.f k t.f4[j].f0 t.f4[j].f1 t.f4[j].f2 t.f4[j].f3 t.f4[j].f4) (fun k=>(term_Copy.mono_l k).1 _ _ _ _ _) (Nat.le_add_left K2 K1) h2
    refine ⟨K1+K2+1,?_⟩
    rw [term_Copy.l0,if_pos (by omega),if_pos (by omega),if_pos (by omega),rd_at hlt,g2,Option.bind_some,if_pos (by rw [List.length_take];omega),w64n (by omega)]
    rw [List.take_succ_eq_append_getElem hlt]at g1
    generalize t.f4[j]=u at g1 ⊢
    cases u
    exact g1
  obtain ⟨K,h⟩:=loop t.f4.length 0 (by omega)
  exact ⟨K+1,by rw [term_Copy.f];exact h⟩
theorem measure_f:∀ (n:Nat) (t:S35) (a1 a2:Int),WF n t→(countT n t:Int)≤a1→a1≤5000→(n:Int)≤a2→a2≤100→∃ K,term_measure.f K t.f0 t.f1 t.f2 t.f3 t.f4 a1 a2=some (a1 - countT n t,true):=by
 intro n
 induction n with
 | zero=>intro t _ _ h;exact h.elim
 | succ n ih =>
  intro t a1 a2 hw hc h1 hn h2
  have hc:((1+countL (countT n) t.f4:Nat):Int)≤a1:=hc
  have hlen:=countL_ge n t.f4 hw.2
  have loop:∀ (m j:Nat) (x1:Int),j+m=t.f4.length→(countL (countT n) (t.f4.drop j):Int)≤x1→x1≤5000→∃ K,term_measure.l0 K x1 a2 t.f4 (t.f4.length:Int) (j:Int)=some (x1 - countL (countT n) (t.f4.drop j),true):=by
   intro m
   induction m with
   | zero =>
    intro j x1 hj _ _
    obtain rfl:j=t.f4.length:=by omega
    exact ⟨1,by simp [term_measure.l0,countL]⟩
   | succ m ihm =>
    intro j x1 hj hx hx2
    have hlt:j < t.f4.length:=by omega
    have hd:=countL_drop (f:=countT n) hlt
    obtain ⟨K1,q1⟩:=ihm (j+1) (x1 - countT n t.f4[j]) (by omega) (by omega) (by omega)
    obtain ⟨K2,q2⟩:=ih t.f4[j] x1 (a2 - 1) (hw.2 _ (List.getElem_mem hlt)) (by omega) (by omega) (by omega) (by omega)
    have g1:=at_rounds (g:=fun k=>term_measure.l0 k (x1 - countT n t.f4[j]) a2 t.f4 (t.f4.length:Int) ((j+1:Nat):Int)) (fun k=>(term_measure.mono_l k).2.2 _ _ _ _ _) (Nat.le_add_right K1 K2) q1
    have g2:=at_rounds (g:=fun k=>term_measure.f k t.f4[j].f0 t.f4[j].f1 t.f4[j].f2 t.f4[j].f3 t.f4[j].f4 x1 (a2 - 1)) (fun k=>(term_measure.mono_l k).1 _ _ _ _ _ _ _) (Nat.le_add_left K2 K1) q2
    refine ⟨K1+K2+1,?_⟩
    rw [term_measure.l0,if_pos (by omega),if_pos (by omega),if_pos (by omega),rd_at hlt,w64i (by omega) (by omega),g2,Option.bind_some,if_pos rfl,w64n (by omega),g1]
    congr 2
    omega
  obtain ⟨K,h⟩:=loop t.f4.length 0 (a1 - 1) (by omega) (by rw [List.drop_zero];omega) (by omega)
  refine ⟨K+2,?_⟩
  rw [term_measure.f,if_neg (by omega),term_measure.j0,if_neg (by simp;omega),w64i (by omega) (by omega)]
  rw [List.drop_zero]at h
  rw [show ((0:Nat):Int)=0 from rfl]at h
  rw [h]
  congr 2
  show a1 - 1 - _=a1 - ((1+countL (countT n) t.f4:Nat):Int)
  omega
def deepL (f:S35→Int→Int):List S35→Int→Int
 | [],x=>x
 | u :: l,x=>if 0≤x then deepL f l (f u x)else x
def deepS:Nat→S35→Int→Int
 | 0,_,x=>x
 | k+1,t,x=>deepL (deepS k) t.f4 (x - 1)
theorem deepL_rng {f:S35→Int→Int}:∀ (l:List S35) (x:Int),(∀ u∈l,∀ y,0≤y→-1≤f u y∧f u y≤y)→-1≤x→-1≤deepL f l x∧deepL f l x≤x:=by
 intro l
 induction l with
 | nil=>intro x _ h;exact ⟨h,Int.le_refl _⟩
 | cons u l ih =>
  intro x hf hx
  show -1≤(if 0≤x then deepL f l (f u x)else x)∧(if 0≤x then deepL f l (f u x)else x)≤x
  split
  ·rename_i h0
   have h1:=hf u (List.mem_cons_self ..) x h0
   have h2:=ih (f u x) (fun v hv=>hf v (List.mem_cons_of_mem _ hv)) h1.1
   omega
  ·omega
theorem deepS_rng:∀ (n:Nat) (t:S35),WF n t→∀ x:Int,0≤x→-1≤deepS n t x∧deepS n t x≤x:=by
 intro n
 induction n with
 | zero=>intro t h;exact h.elim
 | succ n ih =>
  intro t hw x hx
  have:=deepL_rng (f:=deepS n) t.f4 (x - 1) (fun u hu y hy=>ih u (hw.2 u hu) y hy) (by omega)
  show -1≤deepL (deepS n) t.f4 (x - 1)∧deepL (deepS n) t.f4 (x - 1)≤x
  omega
theorem deep_f:∀ (n:Nat) (t:S35) (x:Int),WF n t→0≤x→x≤7→∃ K,saturatetop_deep.f K t.f0 t.f1 t.f2 t.f3 t.f4 x=some (deepS n t x):=by
 intro n
 induction n with
 | zero=>intro t _ h;exact h.elim
 | succ n ih =>
  intro t x hw h0 h7
  have hl:=hw.1
  have loop:∀ (m j:Nat) (y:Int),j+m=t.f4.length→-1≤y→y≤7→∃ K,saturatetop_deep.l0 K y (j:Int) t.f0 t.f1 t.f2 t.f3 t.f4=some (deepL (deepS n) (t.f4.drop j) y):=by
   intro m
   induction m with
   | zero =>
    intro j y hj _ _
    obtain rfl:j=t.f4.length:=by omega
    exact ⟨1,by simp [saturatetop_deep.l0,deepL]⟩
   | succ m ihm =>
    intro j y hj hy hy2
    have hlt:j < t.f4.length:=by omega
    have hd:t.f4.drop j=t.f4[j] :: t.f4.drop (j+1):=List.drop_eq_getElem_cons hlt
    by_cases hy0:0≤y
    ·have hr:=deepS_rng n _ (hw.2 _ (List.getElem_mem hlt)) y hy0
     obtain ⟨K1,q1⟩:=ihm (j+1) (deepS n t.f4[j] y) (by omega) (by omega) (by omega)
     obtain ⟨K2,q2⟩:=ih t.f4[j] y (hw.2 _ (List.getElem_mem hlt)) hy0 hy2
     have g1:=at_rounds (g:=fun k=>saturatetop_deep.l0 k (deepS n t.f4[j] y) ((j+1:Nat):Int) t.f0 t.f1 t.f2 t.f3 t.f4) (fun k=>(saturatetop_deep.mono_l k).2 _ _ _ _ _ _ _) (Nat.le_add_right K1 K2) q1
     have g2:=at_rounds (g:=fun k=>saturatetop_deep.f k t.f4[j].f0 t.f4[j].f1 t.f4[j].f2 t.f4[j].f3 t.f4[j].f4 y) (fun k=>(saturatetop_deep.mono_l k).1 _ _ _ _ _ _) (Nat.le_add_left K2 K1) q2
     refine ⟨K1+K2+1,?_⟩
     rw [saturatetop_deep.l0,if_pos (by omega),if_pos (by omega),if_pos (by omega),rd_at hlt,g2,Option.bind_some,w64n (by omega),g1,hd]
     show _=some (if 0≤y then _ else _)
     rw [if_pos hy0]
    ·refine ⟨1,?_⟩
     rw [saturatetop_deep.l0,if_pos (by omega),if_neg (by omega),hd]
     show _=some (if 0≤y then _ else _)
     rw [if_neg hy0]
  obtain ⟨K,h⟩:=loop t.f4.length 0 (x - 1) (by omega) (by omega) (by omega)
  refine ⟨K+1,?_⟩
  rw [saturatetop_deep.f,w64i (by omega) (by omega)]
  exact h
theorem deepL_neg {f:S35→Int→Int}:∀ (l:List S35) (x:Int),x < 0→deepL f l x=x:=by
 intro l x h
 cases l with
 | nil=>rfl
 | cons u l=>show (if 0≤x then _ else x)=x;rw [if_neg (by omega)]
theorem deep_count:∀ (n:Nat) (t:S35),WF n t→∀ x:Int,0≤deepS n t x→0≤x→deepS n t x=x - countT n t:=by
 intro n
 induction n with
 | zero=>intro t h;exact h.elim
 | succ n ih =>
  intro t hw x h hx
  have loop:∀ (l:List S35) (y:Int),(∀ u∈l,WF n u)→0≤deepL (deepS n) l y→deepL (deepS n) l y=y - countL (countT n) l:=by
   intro l
   induction l with
   | nil=>intro y _ _;show y=y - ((0:Nat):Int);omega
   | cons u l ihl =>
    intro y hu h
    by_cases h0:0≤y
    ·have e:deepL (deepS n) (u :: l) y=deepL (deepS n) l (deepS n u y):=if_pos h0
     rw [e]at h ⊢
     have h1:0≤deepS n u y:=by
      by_cases hn:0≤deepS n u y
      ·exact hn
      ·rw [deepL_neg _ _ (by omega)]at h;omega
     rw [ihl _ (fun v hv=>hu v (List.mem_cons_of_mem _ hv)) h,ih u (hu u (List.mem_cons_self ..)) y h1 h0]
     show _=y - ((countT n u+countL (countT n) l:Nat):Int)
     omega
    ·rw [deepL_neg _ _ (by omega)]at h;omega
  have h:0≤deepL (deepS n) t.f4 (x - 1):=h
  have:=loop t.f4 (x - 1) hw.2 h
  show deepL (deepS n) t.f4 (x - 1)=x - ((1+countL (countT n) t.f4:Nat):Int)
  omega
end Go.Proofs.YtjckhhecnebmmaaGreatDoor.TU
end
section
namespace Go.Proofs.YtjckhhecnebmmaaGreatDoor.TU
open Go.RowKit Go.Proofs.YtjckhhecnebmmaaGreatDoorW.PrintWords Go.Proofs.YtjckhhecnebmmaaGreatDoorW.PrintLast Go.Proofs.YtjckhhecnebmmaaGreatDoorW.PrintMore Go.Proofs.YtjckhhecnebmmaaGreatDoor.QAll
attribute [local go_sem] max2_int min2_int max_two min_two max_three min_three max_four min_four
set_option linter.unusedVariables false
theorem TIn.at {w:World} {o:Own} {n:Nat} {A:Option Addr} {l:List S35} (h:TIn w o (n+1) A l) {i:Nat} {x:S35} (hx:l[i]?=some x) :
  ∃ ad Ai ci,A=some ad∧w.cell? (ad.add (i * 5))=some (.int .i64 x.f0)∧w.cell? ⟨(ad.add (i * 5)).block,(ad.add (i * 5)).off+1,none⟩=some (.int .i64 x.f1)∧w.cell? ⟨(ad.add (i * 5)).block,(ad.add (i * 5)).off+2,none⟩=some (.int .u64 x.f2)∧w.cell? ⟨(ad.add (i * 5)).block,(ad.add (i * 5)).off+3,none⟩=some (.string x.f3)∧w.cell? ⟨(ad.add (i * 5)).block,(ad.add (i * 5)).off+4,none⟩=some (.slice Ai x.f4.length ci)∧x.f4.length≤ci∧TIn w o n Ai x.f4:=by
 obtain ⟨ad,Ai,ci,e,_,_,a0,a1,a2,a3,a4,hc,hn⟩:=h.2 i x hx
 exact ⟨ad,Ai,ci,e,a0,by rw [← add_field _ _ 1 (by omega)];exact a1,by rw [← add_field _ _ 2 (by omega)];exact a2,by rw [← add_field _ _ 3 (by omega)];exact a3,by rw [← add_field _ _ 4 (by omega)];exact a4,hc,hn⟩
def addL (f:St→S35→St × Int × Int):St→List S35→St × List Int × Int
 | S,[]=>(S,[],0)
 | S,u :: l=>if (f S u).2.2=0 then ((addL f (f S u).1 l).1,(f S u).2.1 :: (addL f (f S u).1 l).2.1,(addL f (f S u).1 l).2.2)else ((f S u).1,[],(f S u).2.2)
def ndOf (t:S35) (ids:List Int):Nd:=⟨t.f0,t.f1,t.f2.toNat,t.f3,ids⟩
noncomputable def addT:Nat→St→S35→St × Int × Int
 | 0,S,_=>(S,0,0)
 | k+1,S,t=>if (addL (addT k) S t.f4).2.2=0 then addS (addL (addT k) S t.f4).1 (ndOf t (addL (addT k) S t.f4).2.1)else ((addL (addT k) S t.f4).1,0,(addL (addT k) S t.f4).2.2)
def AOkL (g:St→S35→Prop) (f:St→S35→St × Int × Int):St→List S35→Prop
 | _,[]=>True
 | S,u :: l=>g S u∧((f S u).2.2=0→AOkL g f (f S u).1 l)
structure AReady (S:St) (n:Nd):Prop where
 fine:Fine S
 ok:n.Ok
 few:S.ns.length≤500
 ht:S.t.length≤890
 hN:S.N≤1152921504606800000
def AOk:Nat→St→S35→Prop
 | 0,_,_=>True
 | k+1,S,t=>0≤t.f2∧AOkL (AOk k) (addT k) S t.f4∧((addL (addT k) S t.f4).2.2=0→AReady (addL (addT k) S t.f4).1 (ndOf t (addL (addT k) S t.f4).2.1))
theorem flawF_withL (S:St) (L:List S117) (n:Nd):flawF (withL S L) n=flawF S n:=rfl
theorem addNew_withL (S:St) (L:List S117) (n:Nd):addNew (withL S L) n=withL (addNew S n) L:=by
 have e:newKey (withL S L) n=newKey S n:=rfl
 have e2:(withL S L).tab=S.tab:=rfl
 unfold addNew
 rw [e,e2]
 cases S.tab (keyStr (newKey S n)) <;> rfl
theorem addS_withL (S:St) (L:List S117) (n:Nd):addS (withL S L) n=(withL (addS S n).1 L,(addS S n).2.1,(addS S n).2.2):=by
 unfold addS
 rw [flawF_withL,show (withL S L).ex=S.ex from rfl,addNew_withL]
 split
 ·rfl
 ·cases S.ex (keyStr n) <;> rfl
def GM (b k:Nat):Nat→Prop:=fun x=>b≤x∧x < b+21+2 * k
theorem graphM_gm {b k x:Nat} (h:GraphM b x):GM b k x:=by unfold GraphM at h;unfold GM;omega
theorem gm_mono {b k k' x:Nat} (hk:k≤k') (h:GM b k x):GM b k' x:=by unfold GM at *;omega
def RPost (b g k:Nat) (w:World) (o:Own) (r:St × Int × Int) (m:Nat) (e:Ending) (w':World):Prop:=∃ o' L',e=.returned (.tuple #[.int .i64 r.2.1,.int .i64 r.2.2])∧GraphAt b w' o' g (withL r.1 L')∧L'.length≤m∧Fr (GM b k) w o w' o'
structure RA (B b g k:Nat) (w:World) (o:Own) (t:S35) (A:Option Addr) (c nb:Nat) (m:Nat) (wr:World) (or:Own) (S:St) (ids:List Int):Prop where
 gr:∃ L,L.length≤m∧GraphAt b wr or g (withL S L)
 fr:Fr (GM b (k+1)) w o wr or
 gl:Gl B wr or
 tbx:Blk wr or 0 w.heap.size (tcells t A c) 35
 row:∃ Aa ca,Row (Kd.int .i64) 3 wr or (b+21+2 * k) (.slice Aa ids.length ca) ids∧Blk wr or (b+22+2 * k) nb ((ndOf t ids).cells (.slice Aa ids.length ca)) 56
 tin:TIn wr or k A t.f4
theorem RA.quiet {B b g k:Nat} {w:World} {o:Own} {t:S35} {A:Option Addr} {c nb m:Nat} {wr w2:World} {or o2:Own} {S:St} {ids:List Int} (h:RA B b g k w o t A c nb m wr or S ids) (f:Fr (fun _=>False) wr or w2 o2):RA B b g k w o t A c nb m w2 o2 S ids:=by
 obtain ⟨L,hL,hg⟩:=h.gr
 obtain ⟨Aa,ca,h1,h2⟩:=h.row
 exact ⟨⟨L,hL,hg.fr f.kp (fun _ _ h=>h) (fun h=>h)⟩,h.fr.trans (f.mono (fun _ h=>h.elim)),h.gl.fr f (fun h=>h),h.tbx.fr f.kp (fun h=>h),⟨Aa,ca,h1.fr f.kp (fun h=>h),h2.fr f.kp (fun h=>h)⟩,TIn.fr f.kp (fun h=>h) _ _ _ h.tin⟩
theorem RA.below {B b g k:Nat} {w:World} {o:Own} {t:S35} {A:Option Addr} {c nb m:Nat} {wr w2:World} {or:Own} {S:St} {ids:List Int} (h:RA B b g k w o t A c nb m wr or S ids) (hb:Below wr.heap.size wr w2):RA B b g k w o t A c nb m w2 (or.from_ wr.heap.size 0) S ids:=h.quiet (Fr.of_below hb 0 (.inl rfl))
theorem RA.start {B b g k:Nat} {w w1:World} {o:Own} {S:St} {L:List S117} {t:S35} {A:Option Addr} {c c4:Nat} {A4:Option Addr} (hb0:0 < b) (G:Gl B w o) (H:GraphAt b w o g (withL S L)) (hT:TIn w o k A t.f4) (h2:0≤t.f2) (hr:Kd.R (Kd.int .i64) 3 w1 (w.alloc (.cells (tcells t A c) 35)).heap.size (fun _=>True) (.slice A4 0 c4) []) (hb:Below (w.alloc (.cells (tcells t A c) 35)).heap.size (w.alloc (.cells (tcells t A c) 35)) w1) :
  ∃ o1,RA B b g k w o t A c w1.heap.size L.length (w1.alloc (.cells #[.int .i64 t.f0,.int .i64 t.f1,.int .u64 t.f2,.string t.f3,.slice A4 0 c4] 56)) o1 S []:=by
 have hs:(w.alloc (.cells (tcells t A c) 35)).heap.size=w.heap.size+1:=by simp
 have hle:w.heap.size+1≤w1.heap.size:=by have:=hb.size;omega
 have f0:Fr (GM b (k+1)) w o (w.alloc (.cells (tcells t A c) 35)) (o.from_ w.heap.size 0):=(Fr.start (GM b (k+1)) w o 0 (.inl rfl)).alloc _
 have hm1:GM b (k+1) (b+21+2 * k):=by unfold GM;omega
 have hm2:GM b (k+1) (b+22+2 * k):=by unfold GM;omega
 have f1:=(f0.renew (b+21+2 * k) (.inr hm1)).below hb
 have f2:=(f1.renew (b+22+2 * k) (.inr hm2)).alloc (.cells #[.int .i64 t.f0,.int .i64 t.f1,.int .u64 t.f2,.string t.f3,.slice A4 0 c4] 56)
 have k0:Kp (fun _=>False) w o (w.alloc (.cells (tcells t A c) 35)) (o.from_ w.heap.size 0):=((Kp.refl _ w o).renew 0).alloc _
 have k1:Kp (fun _=>False) (w.alloc (.cells (tcells t A c) 35)) (o.from_ w.heap.size 0) (w1.alloc (.cells #[.int .i64 t.f0,.int .i64 t.f1,.int .u64 t.f2,.string t.f3,.slice A4 0 c4] 56)) (((o.from_ w.heap.size 0).from_ (w.alloc (.cells (tcells t A c) 35)).heap.size (b+21+2 * k)).from_ w1.heap.size (b+22+2 * k)):=((((Kp.refl _ _ _).renew (b+21+2 * k)).below hb).renew (b+22+2 * k)).alloc _
 have kk:=k0.trans k1
 have hv:((t.f2.toNat:Nat):Int)=t.f2:=Int.toNat_of_nonneg h2
 refine ⟨_,⟨⟨L,Nat.le_refl _,H.fr kk (fun _ _ h=>h) (fun h=>h)⟩,f2,?_,?_,⟨A4,c4,?_,?_⟩,TIn.fr kk (fun h=>h) _ _ _ hT⟩⟩
 ·exact ⟨G.tab.on (Fr.toBelow f2 G.le (fun q hq=>by rw [G.own q hq];unfold GM;omega)),Nat.le_trans G.le f2.size,fun q hq=>(f2.own q (Nat.lt_of_lt_of_le hq G.le)).trans (G.own q hq)⟩
 ·have hblk:Blk (w.alloc (.cells (tcells t A c) 35)) (o.from_ w.heap.size 0) 0 w.heap.size (tcells t A c) 35:=⟨blk_new _ _,Own.from_ge (Nat.le_refl _)⟩
  exact hblk.fr k1 (fun h=>h)
 ·have h1:Row (Kd.int .i64) 3 w1 ((o.from_ w.heap.size 0).from_ (w.alloc (.cells (tcells t A c) 35)).heap.size (b+21+2 * k)) (b+21+2 * k) (.slice A4 0 c4) []:=Kd.R_reok rfl (Kd.R_lower hr (Nat.zero_le _)) (fun q hq=>Own.from_ge (Kd.R_base hr q hq))
  exact h1.fr (((Kp.refl (fun _=>False) w1 _).renew (b+22+2 * k)).alloc _) (fun h=>h)
 ·have h5:(ndOf t []).cells (.slice A4 ([]:List Int).length c4)=#[.int .i64 t.f0,.int .i64 t.f1,.int .u64 t.f2,.string t.f3,.slice A4 0 c4]:=by
   show (#[.int .i64 t.f0,.int .i64 t.f1,.int .u64 ((t.f2.toNat:Nat):Int),.string t.f3,.slice A4 0 c4]:Array Value)=_
   rw [hv]
  rw [h5]
  exact ⟨blk_new _ _,Own.from_ge (Nat.le_refl _)⟩
theorem addL_step {f:St→S35→St × Int × Int} {S:St} {u:S35} {l:List S35} (h:(f S u).2.2=0):addL f S (u :: l)=((addL f (f S u).1 l).1,(f S u).2.1 :: (addL f (f S u).1 l).2.1,(addL f (f S u).1 l).2.2):=if_pos h
theorem addL_stop {f:St→S35→St × Int × Int} {S:St} {u:S35} {l:List S35} (h:(f S u).2.2≠0):addL f S (u :: l)=((f S u).1,[],(f S u).2.2):=if_neg h
theorem RA.next {B b g k:Nat} {w:World} {o:Own} {t:S35} {A:Option Addr} {c nb m m2:Nat} {wr w2:World} {or o2:Own} {S S2:St} {L2:List S117} {ids:List Int} (hb0:0 < b) (h:RA B b g k w o t A c nb m wr or S ids) (f:Fr (GM b k) wr or w2 o2) (hg:GraphAt b w2 o2 g (withL S2 L2)) (hL:L2.length≤m2):RA B b g k w o t A c nb m2 w2 o2 S2 ids:=by
 obtain ⟨Aa,ca,h1,h2⟩:=h.row
 have n0:¬ GM b k 0:=by unfold GM;omega
 exact ⟨⟨L2,hL,hg⟩,h.fr.trans (f.mono (fun _ h=>gm_mono (by omega) h)),h.gl.fr f n0,h.tbx.fr f.kp n0,⟨Aa,ca,h1.fr f.kp (by unfold GM;omega),h2.fr f.kp (by unfold GM;omega)⟩,TIn.fr f.kp n0 _ _ _ h.tin⟩
theorem countL_len (k:Nat):∀ l:List S35,l.length≤countL (countT (k+1)) l:=by
 intro l
 induction l with
 | nil=>exact Nat.le_refl _
 | cons u l ih=>show l.length+1≤(1+countL (countT k) u.f4)+countL (countT (k+1)) l;omega
theorem RA.arg {B b g k:Nat} {w:World} {o:Own} {t:S35} {A:Option Addr} {c nb m:Nat} {wr w7:World} {or o7:Own} {S:St} {ids ids':List Int} {Aa A7:Option Addr} {ca c7:Nat} (hb0:0 < b) (h:RA B b g k w o t A c nb m wr or S ids) (hbox:Blk wr or (b+22+2 * k) nb ((ndOf t ids).cells (.slice Aa ids.length ca)) 56) (f:Fr (·=b+21+2 * k) wr or w7 o7) (h7:Row (Kd.int .i64) 3 w7 o7 (b+21+2 * k) (.slice A7 ids'.length c7) ids') :
  RA B b g k w o t A c nb m (w7.setCell ⟨nb,4,none⟩ (.slice A7 ids'.length c7)) o7 S ids':=by
 obtain ⟨L,hL,hg⟩:=h.gr
 have hb7:=hbox.fr f.kp (by omega)
 have fs:Fr (fun x=>x=b+21+2 * k∨x=b+22+2 * k) wr or (w7.setCell ⟨nb,4,none⟩ (.slice A7 ids'.length c7)) o7:=(f.mono (fun _ h=>.inl h)).setCell _ _ (.inl (.inr hb7.2))
 have ks:Kp (·=b+22+2 * k) w7 o7 (w7.setCell ⟨nb,4,none⟩ (.slice A7 ids'.length c7)) o7:=(Kp.refl _ w7 o7).setCell _ _ (.inl hb7.2)
 exact ⟨⟨L,hL,hg.fr fs.kp (fun x hx=>by unfold GraphM at hx;omega) (by omega)⟩,h.fr.trans (fs.mono (fun x h=>by unfold GM;omega)),h.gl.fr fs (by omega),h.tbx.fr fs.kp (by omega),⟨A7,c7,h7.fr ks (by omega),hb7.set 4 (.slice A7 ids'.length c7)⟩,TIn.fr fs.kp (by omega) _ _ _ h.tin⟩
set_option maxHeartbeats 6400000 in
set_option maxRecDepth 20000 in
theorem radd_step {B b g k:Nat} (hb0:0 < b) (ih:∀ (w:World) (o:Own) (S:St) (L:List S117) (t:S35) (A:Option Addr) (c:Nat),Gl B w o→GraphAt b w o g (withL S L)→AOk k S t→L.length+countT k t≤790→(∃ k',k=k'+1∧TIn w o k' A t.f4)→t.f4.length≤c →
   Calls Tryz.prog 35 #[.pointer (some ⟨g,0,none⟩),.agg (tcells t A c)] w (RPost b g k w o (addT k S t) (L.length+countT k t)))
  {w:World} {o:Own} {S:St} {L:List S117} (G:Gl B w o) (H:GraphAt b w o g (withL S L)) (t:S35) (A:Option Addr) (c:Nat) (hok:AOk (k+1) S t) (hL:L.length+countT (k+1) t≤790) (hT:TIn w o k A t.f4) (hc:t.f4.length≤c) :
  Calls Tryz.prog 35 #[.pointer (some ⟨g,0,none⟩),.agg (tcells t A c)] w (RPost b g (k+1) w o (addT (k+1) S t) (L.length+countT (k+1) t)):=by
 have hb1:=below_alloc (Below.refl w.heap.size w) (.cells (tcells t A c) 35)
 have hsh:=represent_shell.calls t.f0 t.f1 t.f2 t.f3 A c t.f4 t.f0 t.f1 t.f2 t.f3 [] (w.alloc (.cells (tcells t A c) 35)) (Kd.C_below (TIn.C _ _ _ hT) hb1) hc rfl
 have HG:=Lib.hid G
 have HH:=Lib.hid H
 have HOK:=Lib.hid hok
 have HT:=Lib.hid hT
 have HIH:=Lib.hid ih
 have HL:=Lib.hid hL
 have HB1:=Lib.hid hb1
 clear G H hok hT ih hL hb1
 simp only [tcells]at *
 go_enter Tryz.func35,Tryz.ntmps35
 go_upto_region 1 with fail
 go_cut [6] (fun s6 wy=>∃ nb,s6=.pointer (some ⟨nb,0,none⟩)∧Hid (∃ o1,RA B b g k w o t A c nb L.length wy o1 S []))
 case first =>
  go_wp2_with fail
  refine hsh.mono ?_
  rintro e w1 ⟨v4,rfl,hr1,hb2⟩
  obtain ⟨A4,c4,rfl⟩:=Kd.R_slice hr1
  have HR1:=Lib.hid hr1
  have HB2:=Lib.hid hb2
  clear hr1 hb2 hsh
  go_wp2_with fail
  go_meet
  exact ⟨_,rfl,RA.start hb0 HG.out HH.out HT.out HOK.out.1 HR1.out HB2.out⟩
 case rest =>
  obtain ⟨nb,rfl,o1,D⟩:=hcut
  clear hsh
  have x4:wc.cell? ⟨w.heap.size,4,none⟩=some (.slice A t.f4.length c):=(blk_cell D.tbx.1 4).trans rfl
  have htl:t.f4.length≤9223372036854775807:=by
   have h:=(TIn.C _ _ _ HT.out).2.1
   exact h
  have H0:=Lib.hid (show ∃ o2 m,RA B b g k w o t A c nb m wc o2 S []∧m+1+countL (countT k) (t.f4.drop 0)≤L.length+countT (k+1) t from ⟨o1,L.length,D,by show _≤L.length+(1+countL (countT k) t.f4);rw [List.drop_zero];omega⟩)
  clear D
  refine (‹∀ (a:Act) (w:World),Code.wp _ _ _ a w→_›) _ _ ?_
  refine wp_seq_k ?_
  intro K2 hK2
  go_cut [] (fun wy=>Hid (∃ o2 m Si ids,RA B b g k w o t A c nb m wy o2 Si ids∧m+1≤L.length+countT (k+1) t∧addL (addT k) S t.f4=(Si,ids,0)))
  case first =>
   go_wp2_with fail
   go_loopw [16] (fun s wr=>∃ (i:Nat) (Si:St) (ids:List Int),i≤t.f4.length∧s=.int .i64 i∧ids.length=i∧Hid (∃ o2 m,RA B b g k w o t A c nb m wr o2 Si ids∧m+1+countL (countT k) (t.f4.drop i)≤L.length+countT (k+1) t)∧Hid (AOkL (AOk k) (addT k) Si (t.f4.drop i))∧Hid (addL (addT k) S t.f4=((addL (addT k) Si (t.f4.drop i)).1,ids++(addL (addT k) Si (t.f4.drop i)).2.1,(addL (addT k) Si (t.f4.drop i)).2.2))) (fun s _=>t.f4.length - (intOf s).toNat)
   case atStart=>exact ⟨0,S,[],Nat.zero_le _,rfl,rfl,H0,HOK.out.2.1,rfl⟩
   case round =>
    obtain ⟨i,Si,ids,hi,rfl,hids,⟨o2,m,hA,hm⟩,hao,hadd⟩:=hrel
    have HA:=Lib.hid hA
    have HM:=Lib.hid hm
    have HAO:=Lib.hid hao
    have HADD:=Lib.hid hadd
    clear hA hm hao hadd H0 x4
    by_cases hlt:i < t.f4.length
    ·cases k with
     | zero =>
      have h:=HT.out
      have h:t.f4=[]:=h
      rw [h]at hlt
      simp at hlt
     | succ k =>
      have hdr:t.f4.drop i=t.f4[i] :: t.f4.drop (i+1):=List.drop_eq_getElem_cons hlt
      obtain ⟨ad,Au,cu,rfl,a0,a1,a2,a3,a4,hcu,htu⟩:=TIn.at HA.out.tin (List.getElem?_eq_getElem hlt)
      have hm:=HM.out
      have hao:=HAO.out
      have hadd:=HADD.out
      rw [hdr]at hm hao hadd
      generalize t.f4[i]=u at *
      have hm:m+1+(countT (k+1) u+countL (countT (k+1)) (t.f4.drop (i+1)))≤L.length+countT (k+1+1) t:=hm
      obtain ⟨hao1,hao2⟩:=hao
      have HM2:=Lib.hid hm
      have HAO1:=Lib.hid hao1
      have HAO2:=Lib.hid hao2
      have HADD2:=Lib.hid hadd
      have HTU:=Lib.hid htu
      clear hm hao1 hao2 hadd htu hdr HM HAO HADD
      go_upto_region 4 with fail
      go_cut [8] (fun s8 wy=>s8=.pointer (some ⟨wr.heap.size,0,none⟩)∧Hid (∃ o3,RA B b g (k+1) w o t (some ad) c nb m wy o3 Si ids∧wy.heap[wr.heap.size]?=some (.cells (tcells u Au cu) 35 (0,0))∧TIn wy o3 k Au u.f4))
      case first =>
       go_wp2_with fail
       go_meet
       have hb:=below_alloc (Below.refl wr.heap.size wr) (.cells (tcells u Au cu) 35)
       exact ⟨rfl,_,HA.out.below hb,blk_new _ _,TIn.fr (M:=fun _=>False) (((Kp.refl (fun _=>False) wr o2).renew 0).below hb) (fun h=>h) _ _ _ HTU.out⟩
      case rest =>
       obtain ⟨rfl,o3,D3,B3,T3⟩:=hcut
       generalize wr.heap.size=ub at *
       clear HA a0 a1 a2 a3 a4 HTU
       have b0:wc.cell? ⟨ub,0,none⟩=some (.int .i64 u.f0):=(blk_cell B3 0).trans rfl
       have b1:wc.cell? ⟨ub,1,none⟩=some (.int .i64 u.f1):=(blk_cell B3 1).trans rfl
       have b2:wc.cell? ⟨ub,2,none⟩=some (.int .u64 u.f2):=(blk_cell B3 2).trans rfl
       have b3:wc.cell? ⟨ub,3,none⟩=some (.string u.f3):=(blk_cell B3 3).trans rfl
       have b4:wc.cell? ⟨ub,4,none⟩=some (.slice Au u.f4.length cu):=(blk_cell B3 4).trans rfl
       obtain ⟨L3,hL3,hg3⟩:=D3.gr
       have hcall:=HIH.out wc o3 Si L3 u Au cu D3.gl hg3 HAO1.out (by have h1:=HM2.out;have h2:=HL.out;omega) ⟨k,rfl,T3⟩ hcu
       have HD3:=Lib.hid D3
       have HCALL:=Lib.hid hcall
       have HL3:=Lib.hid hL3
       clear D3 B3 T3 hg3 hcall hL3
       go_wp2_with fail
       refine HCALL.out.mono ?_
       rintro e w4 ⟨o4,L4,rfl,hg4,hl4,f4⟩
       have HA4:=Lib.hid (HD3.out.next hb0 f4 hg4 (m2:=m+countT (k+1) u) (by have:=HL3.out;omega))
       clear hg4 hl4 f4 HCALL HL3 HD3 b0 b1 b2 b3 b4
       by_cases he:(addT (k+1) Si u).2.2=0
       ·have hadd:=HADD2.out
        rw [addL_step he]at hadd
        have HADD3:=Lib.hid hadd
        have HAO3:=Lib.hid (HAO2.out he)
        have heb:((addT (k+1) Si u).2.2 != 0)=false:=by simpa using he
        clear hadd he HADD2 HAO2 HAO1
        generalize (addT (k+1) Si u).2.2=er at *
        generalize (addT (k+1) Si u).2.1=id at *
        generalize (addT (k+1) Si u).1=S4 at *
        obtain ⟨Aa,ca,hrow,hbox⟩:=HA4.out.row
        have y4:w4.cell? ⟨nb,4,none⟩=some (.slice Aa ids.length ca):=(blk_cell hbox.1 4).trans rfl
        have HROW:=Lib.hid hrow
        have HBOX:=Lib.hid hbox
        have hid3:ids.length≤1000000:=by
         have h1:=countL_len k t.f4
         have h2:L.length+(1+countL (countT (k+1)) t.f4)≤790:=HL.out
         omega
        have HIDS:=Lib.hid hids
        clear hids
        clear hrow hbox
        go_wp2_with ((with_reducible refine gate_builtin (b:=.append) (xs:=#[.tmp 30,.tmp 32]) rfl ?_);at_builtin;refine row_append (Kd.int .i64) (Fr.start (·=b+21+2 * (k+1)) w4 o4 0 (.inl rfl)) (b+21+2 * (k+1)) rfl rfl (.tmp 30) (.tmp 32) 26 3 (.int .i64 0) 8 rfl Tryz.underlying26 inf3 rfl (by decide) (by omega) (.slice Aa ids.length ca) ids id [.int .i64 id] rfl rfl ?aP (HROW.out.renew 0) ?aL ?_;(case aP=>exact rfl);(case aL=>omega);intro A7 c7 w7 h7 f7 k7;have H7:=Lib.hid h7;have F7:=Lib.hid f7;have hb7:=HBOX.out.fr f7.kp (by omega);have y7:w7.cell? ⟨nb,4,none⟩=some (.slice Aa ids.length ca):=(blk_cell hb7.1 4).trans rfl;have z7:=blk_frozen hb7.1 4;clear h7 f7 k7 hb7)
        have hlid:(ids++[id]).length=ids.length+1:=by simp
        have HN:=Lib.hid (HA4.out.arg hb0 HBOX.out F7.out (ids':=ids++[id]) (A7:=A7) (c7:=c7) (by rw [hlid];exact H7.out))
        rw [hlid]at HN
        clear hlid
        go_roundw
        case rel=>exact ⟨i+1,S4,ids++[id],by omega,by go_num,by have:=HIDS.out;simp [this],⟨_,_,HN.out,by have:=HM2.out;omega⟩,HAO3.out,by rw [HADD3.out,List.append_assoc];rfl⟩
        case measure=>first | (simp [intOf];done) | (simp [intOf];omega)
       ·have hadd:=HADD2.out
        rw [addL_stop he]at hadd
        have HADD3:=Lib.hid hadd
        have HE:=Lib.hid he
        have heb:((addT (k+1) Si u).2.2 != 0)=true:=by simpa using he
        clear hadd he HADD2 HAO2 HAO1
        generalize hr:addT (k+1) Si u=r at *
        clear hr
        have e1:addT (k+1+1) S t=(r.1,0,r.2.2):=by
         show (if _ then _ else _)=_
         rw [HADD3.out,if_neg HE.out]
        have HE1:=Lib.hid e1
        clear e1
        go_wp2_with fail
        go_ret2
        obtain ⟨L5,hL5,hg5⟩:=HA4.out.gr
        have h6:=HM2.out
        rw [HE1.out]
        exact ⟨o4,L5,rfl,hg5,by omega,HA4.out.fr⟩
    ·have hil:i=t.f4.length:=by omega
     have hadd:=HADD.out
     have hm:=HM.out
     rw [hil,List.drop_length]at hadd hm
     have HADD2:=Lib.hid (show addL (addT k) S t.f4=(Si,ids,0)from hadd.trans (by show (Si,ids++[],(0:Int))=_;rw [List.append_nil]))
     have HM2:=Lib.hid (show m+1≤L.length+countT (k+1) t from hm)
     clear hadd hm
     subst hil
     go_wp2_with fail
     go_meet
     exact ⟨o2,m,Si,ids,HA.out,HM2.out,HADD2.out⟩
  case rest =>
   obtain ⟨o2,m,Si,ids,D,hm,hadd⟩:=hcut
   refine hK2 _ _ ?_
   have har:=HOK.out.2.2
   rw [hadd]at har
   have har:=har rfl
   obtain ⟨L2,hL2,hg2⟩:=D.gr
   obtain ⟨Aa,ca,hrow,hbox⟩:=D.row
   have hle:=HL.out
   have hcall:=add_calls' D.gl hg2 (har.fine.withL (by omega)) hb0 (by unfold GraphM;omega) (ndOf t ids) har.ok Aa ca hrow har.few har.ht (by show L2.length≤790;omega) har.hN
   rw [addS_withL]at hcall
   have b0:wc.cell? ⟨nb,0,none⟩=some (.int .i64 t.f0):=(blk_cell hbox.1 0).trans rfl
   have b1:wc.cell? ⟨nb,1,none⟩=some (.int .i64 t.f1):=(blk_cell hbox.1 1).trans rfl
   have b2:wc.cell? ⟨nb,2,none⟩=some (.int .u64 ((t.f2.toNat:Nat):Int)):=(blk_cell hbox.1 2).trans rfl
   have b3:wc.cell? ⟨nb,3,none⟩=some (.string t.f3):=(blk_cell hbox.1 3).trans rfl
   have b4:wc.cell? ⟨nb,4,none⟩=some (.slice Aa ids.length ca):=(blk_cell hbox.1 4).trans rfl
   have hv:((t.f2.toNat:Nat):Int)=t.f2:=Int.toNat_of_nonneg HOK.out.1
   rw [hv]at b2
   have e1:addT (k+1) S t=addS Si (ndOf t ids):=by
    show (if _ then _ else _)=_
    rw [hadd]
    exact if_pos rfl
   have HE1:=Lib.hid e1
   have HD:=Lib.hid D
   have HM:=Lib.hid hm
   have HL2:=Lib.hid hL2
   have HCALL:=Lib.hid hcall
   clear hadd har hg2 hrow hbox hle hcall e1 D hm hL2 H0 x4
   simp only [Nd.cells]at HCALL
   generalize hrr:addS Si (ndOf t ids)=r at *
   clear hrr
   simp only [ndOf]at HCALL
   rw [hv]at HCALL
   clear hv
   go_wp2_with fail
   refine HCALL.out.mono ?_
   rintro e w4 ⟨o4,L4,rfl,hg4,hl4,f4⟩
   have HG4:=Lib.hid hg4
   have F4:=Lib.hid f4
   have HL4:=Lib.hid hl4
   clear hg4 f4 hl4 HCALL
   go_wp2_with fail
   go_ret2
   rw [HE1.out]
   have h1:=HM.out
   have h2:=HL2.out
   have h3:L4.length≤L2.length+1:=HL4.out
   exact ⟨o4,L4,rfl,HG4.out,by omega,HD.out.fr.trans (F4.out.mono (fun _ h=>graphM_gm h))⟩
end Go.Proofs.YtjckhhecnebmmaaGreatDoor.TU
end

/- Steps towards the law TopUndoes; words printed by the kit, and printed texts, are cut to what is used, and spaces are left out. No condition. -/
import Derived.Test.YtjckhhecnebmmaaGreatDoorZ30
set_option linter.unusedVariables false
set_option linter.unusedSimpArgs false
section
namespace Go.Proofs.YtjckhhecnebmmaaGreatDoor.TU
open Go.RowKit Go.Proofs.YtjckhhecnebmmaaGreatDoorW.PrintWords Go.Proofs.YtjckhhecnebmmaaGreatDoorW.PrintLast Go.Proofs.YtjckhhecnebmmaaGreatDoorW.PrintMore Go.Proofs.YtjckhhecnebmmaaGreatDoor.QAll
attribute [local go_sem] max2_int min2_int max_two min_two max_three min_three max_four min_four
set_option linter.unusedVariables false
def EvAt (w:World) (ad:Addr) (e:Ev) (At:Option Addr) (ct:Nat):Prop:=w.cell? (ad)=some (.int .i64 e.kind)∧w.cell? ⟨(ad).block,(ad).off+1,none⟩=some (.int .i64 e.t.f0)∧w.cell? ⟨(ad).block,(ad).off+2,none⟩=some (.int .i64 e.t.f1)∧w.cell? ⟨(ad).block,(ad).off+3,none⟩=some (.int .u64 e.t.f2)∧w.cell? ⟨(ad).block,(ad).off+4,none⟩=some (.string e.t.f3)∧w.cell? ⟨(ad).block,(ad).off+5,none⟩=some (.slice At e.t.f4.length ct)∧w.cell? ⟨(ad).block,(ad).off+6,none⟩=some (.int .i64 e.a)∧w.cell? ⟨(ad).block,(ad).off+7,none⟩=some (.int .i64 e.b)
def EvIn (w:World) (o:Own) (n:Nat) (A:Option Addr) (l:List Ev):Prop:=l.length≤9223372036854775807∧∀ (i:Nat) (e:Ev),l[i]?=some e→∃ ad At ct,A=some ad∧ad.block < w.heap.size∧o ad.block=0∧EvAt w (ad.add (i * 8)) e At ct∧e.t.f4.length≤ct∧TIn w o n At e.t.f4
theorem EvIn.fr {M:Nat→Prop} {w w':World} {o o':Own} {n:Nat} {A:Option Addr} {l:List Ev} (h:EvIn w o n A l) (f:Kp M w o w' o') (h0:¬ M 0):EvIn w' o' n A l:=by
 refine ⟨h.1,fun i e he=>?_⟩
 obtain ⟨ad,At,ct,ea,hlt,ho,⟨a0,a1,a2,a3,a4,a5,a6,a7⟩,hc,hT⟩:=h.2 i e he
 have hb:=f.block _ hlt (by rw [ho];exact h0)
 have q:∀ j,w'.cell? ⟨(ad.add (i * 8)).block,j,none⟩=w.cell? ⟨(ad.add (i * 8)).block,j,none⟩:=fun j=>World.cell?_of_block (a:=⟨(ad.add (i * 8)).block,j,none⟩) (by show w'.heap[(ad.add (i * 8)).block]?=w.heap[(ad.add (i * 8)).block]?;rw [add_block];exact hb)
 exact ⟨ad,At,ct,ea,Nat.lt_of_lt_of_le hlt f.size,(f.own _ hlt).trans ho,⟨cell_at_block hb (add_block _ _) a0,(q _).trans a1,(q _).trans a2,(q _).trans a3,(q _).trans a4,(q _).trans a5,(q _).trans a6,(q _).trans a7⟩,hc,TIn.fr f h0 _ _ _ hT⟩
structure EvRel (w:World) (o:Own) (r:EvB) (e:Ev):Prop where
 kind:r.kind=e.kind
 f0:r.f0=e.t.f0
 f1:r.f1=e.t.f1
 f2:r.f2=e.t.f2
 f3:r.f3=e.t.f3
 n:r.sl.n=e.t.f4.length
 c:e.t.f4.length≤r.sl.c
 tin:TIn w o 6 r.sl.A e.t.f4
 a:r.a=e.a
 b:r.b=e.b
 few:countT 7 e.t≤7
theorem EvRel.fr {M:Nat→Prop} {w w':World} {o o':Own} {r:EvB} {e:Ev} (h:EvRel w o r e) (f:Kp M w o w' o') (h0:¬ M 0):EvRel w' o' r e:={ h with tin:=TIn.fr f h0 _ _ _ h.tin }
def EvRow (w:World) (o:Own) (t:Nat) (v:Value) (l:List Ev):Prop:=∃ rs,Row kEV 37 w o t v rs∧rs.length=l.length∧∀ (i:Nat) (r:EvB) (e:Ev),rs[i]?=some r→l[i]?=some e→EvRel w o r e
theorem EvRow.fr {M:Nat→Prop} {w w':World} {o o':Own} {t:Nat} {v:Value} {l:List Ev} (h:EvRow w o t v l) (f:Kp M w o w' o') (ht:¬ M t) (h0:¬ M 0):EvRow w' o' t v l:=by
 obtain ⟨rs,h1,h2,h3⟩:=h
 exact ⟨rs,h1.fr f ht,h2,fun i r e hr he=>(h3 i r e hr he).fr f h0⟩
theorem EvRow.slice {w:World} {o:Own} {t:Nat} {v:Value} {l:List Ev} (h:EvRow w o t v l):∃ A c,v=.slice A l.length c:=by
 obtain ⟨rs,h1,h2,_⟩:=h
 obtain ⟨A,c,e⟩:=h1.slice
 exact ⟨A,c,by rw [e,h2]⟩
theorem EvRow.at {w:World} {o:Own} {t n c:Nat} {A:Option Addr} {l:List Ev} (h:EvRow w o t (.slice A n c) l) {i:Nat} {e:Ev} (he:l[i]?=some e) :
  ∃ ad At ct,A=some ad∧EvAt w (ad.add (i * 8)) e At ct∧e.t.f4.length≤ct∧TIn w o 6 At e.t.f4∧countT 7 e.t≤7:=by
 obtain ⟨rs,h1,h2,h3⟩:=h
 obtain ⟨hn,hnc,hC⟩:=Kd.R_reads' h1
 have hi:i < l.length:=by
  rcases Nat.lt_or_ge i l.length with h | h
  ·exact h
  ·rw [List.getElem?_eq_none h]at he;cases he
 obtain ⟨ad,ea,hc⟩:=hC.2.2 (by omega)
 have hr:rs[i]?=some rs[i]:=List.getElem?_eq_getElem (by omega)
 obtain ⟨cs,_,hK,hcell⟩:=hc i _ hr
 have hrel:=h3 i _ e hr he
 have hcs:cs=rs[i].cells:=hK
 have hv:rs[i].sl.v=.slice rs[i].sl.A e.t.f4.length rs[i].sl.c:=by unfold SL.v;rw [hrel.n]
 have g:∀ j u,rs[i].cells[j]?=some u→w.cell? (ad.add (i * 8+j))=some u:=fun j u h=>hcell j u (by rw [hcs];exact h)
 refine ⟨ad,rs[i].sl.A,rs[i].sl.c,ea,⟨?_,?_,?_,?_,?_,?_,?_,?_⟩,hrel.c,hrel.tin,hrel.few⟩
 ·rw [← hrel.kind];exact g 0 _ rfl
 ·rw [← add_field _ _ 1 (by omega),← hrel.f0];exact g 1 _ rfl
 ·rw [← add_field _ _ 2 (by omega),← hrel.f1];exact g 2 _ rfl
 ·rw [← add_field _ _ 3 (by omega),← hrel.f2];exact g 3 _ rfl
 ·rw [← add_field _ _ 4 (by omega),← hrel.f3];exact g 4 _ rfl
 ·rw [← add_field _ _ 5 (by omega),← hv];exact g 5 _ rfl
 ·rw [← add_field _ _ 6 (by omega),← hrel.a];exact g 6 _ rfl
 ·rw [← add_field _ _ 7 (by omega),← hrel.b];exact g 7 _ rfl
theorem deepL_eq {f g:S35→Int→Int}:∀ (l:List S35) (x:Int),(∀ u∈l,∀ y,f u y=g u y)→deepL f l x=deepL g l x:=by
 intro l
 induction l with
 | nil=>intro x _;rfl
 | cons u l ih =>
  intro x h
  show (if 0≤x then _ else x)=(if 0≤x then _ else x)
  rw [h u (List.mem_cons_self ..),ih _ (fun v hv=>h v (List.mem_cons_of_mem _ hv))]
theorem deepS_up:∀ (n:Nat) (t:S35) (x:Int),WF n t→deepS (n+1) t x=deepS n t x:=by
 intro n
 induction n with
 | zero=>intro t x h;exact h.elim
 | succ n ih=>intro t x h;exact deepL_eq _ _ (fun u hu y=>ih u y (h.2 u hu))
theorem WF.up:∀ (n:Nat) (t:S35),WF n t→WF (n+1) t:=by
 intro n
 induction n with
 | zero=>intro t h;exact h.elim
 | succ n ih=>intro t h;exact ⟨h.1,fun u hu=>ih u (h.2 u hu)⟩
theorem WF.mono {n m:Nat} {t:S35} (h:WF n t) (hm:n≤m):WF m t:=by
 induction hm with
 | refl=>exact h
 | step _ ih=>exact WF.up _ _ ih
theorem deepS_mono {n m:Nat} {t:S35} (h:WF n t) (hm:n≤m) (x:Int):deepS m t x=deepS n t x:=by
 induction hm with
 | refl=>rfl
 | step hm ih=>rw [deepS_up _ _ _ (h.mono hm),ih]
open Classical in
noncomputable def good (e:Ev):Bool:=if e.kind≠4∧e.kind≠5∧∃ n,WF n e.t∧0≤deepS n e.t 7 then true else false
theorem good_iff {e:Ev} {n:Nat} (h:WF n e.t):good e=true↔e.kind≠4∧e.kind≠5∧0≤deepS n e.t 7:=by
 unfold good
 constructor
 ·intro hg
  split at hg
  ·rename_i h2
   obtain ⟨h4,h5,m,hm,hd⟩:=h2
   refine ⟨h4,h5,?_⟩
   rcases Nat.le_total n m with h' | h'
   ·rw [← deepS_mono h h'];exact hd
   ·rw [deepS_mono hm h'];exact hd
  ·cases hg
 ·rintro ⟨h4,h5,hd⟩
  rw [if_pos ⟨h4,h5,n,h,hd⟩]
noncomputable def smallL (l:List Ev):List Ev:=(l.filter good).take 14
theorem WF.small:∀ (m n:Nat) (t:S35),WF n t→countT n t≤m→WF m t∧countT m t=countT n t:=by
 intro m
 induction m with
 | zero=>intro n t h hc;have:=countT_pos n t h;omega
 | succ m ih =>
  intro n t h hc
  cases n with
  | zero=>exact h.elim
  | succ n =>
   have hc:1+countL (countT n) t.f4≤m+1:=hc
   have hu:∀ u∈t.f4,WF m u∧countT m u=countT n u:=fun u hu=>ih n u (h.2 u hu) (by have:=countL_mem (f:=countT n) hu;omega)
   refine ⟨⟨h.1,fun u hu'=>(hu u hu').1⟩,?_⟩
   show 1+countL (countT m) t.f4=1+countL (countT n) t.f4
   have:∀ l:List S35,(∀ u∈l,countT m u=countT n u)→countL (countT m) l=countL (countT n) l:=by
    intro l
    induction l with
    | nil=>intro _;rfl
    | cons u l ihl =>
     intro h
     show countT m u+countL (countT m) l=countT n u+countL (countT n) l
     rw [h u (List.mem_cons_self ..),ihl (fun v hv=>h v (List.mem_cons_of_mem _ hv))]
   rw [this _ (fun u hu'=>(hu u hu').2)]
theorem TIn.small {w:World} {o:Own}:∀ (m n:Nat) (A:Option Addr) (l:List S35),TIn w o n A l→(∀ u∈l,countT n u≤m)→TIn w o m A l:=by
 intro m
 induction m with
 | zero =>
  intro n A l h hc
  cases l with
  | nil=>rfl
  | cons u l =>
   have h1:=TIn.wf n A _ h u (List.mem_cons_self ..)
   have:=countT_pos n u h1
   have:=hc u (List.mem_cons_self ..)
   omega
 | succ m ih =>
  intro n A l h hc
  cases n with
  | zero=>rw [show l=[]from h];exact ⟨by simp,fun i x hx=>by simp at hx⟩
  | succ n =>
   refine ⟨h.1,fun i x hx=>?_⟩
   obtain ⟨ad,Ai,ci,e,hl,ho,a0,a1,a2,a3,a4,hc4,hn⟩:=h.2 i x hx
   refine ⟨ad,Ai,ci,e,hl,ho,a0,a1,a2,a3,a4,hc4,ih n Ai x.f4 hn (fun u hu=>?_)⟩
   have h1:1+countL (countT n) x.f4≤m+1:=hc x (List.mem_of_getElem? hx)
   have:=countL_mem (f:=countT n) hu
   omega
theorem good_small {w:World} {o:Own} {n:Nat} {A:Option Addr} {e:Ev} (h:TIn w o n A e.t.f4) (hg:good e=true):TIn w o 6 A e.t.f4∧countT 7 e.t≤7:=by
 have hw:=TIn.wf' h
 have hd:=((good_iff hw).1 hg).2.2
 have hc:=deep_count _ _ hw 7 hd (by omega)
 have hc7:countT (n+1) e.t≤7:=by omega
 have h7:=(WF.small 7 (n+1) e.t hw hc7).2
 refine ⟨TIn.small 6 n A _ h (fun u hu=>?_),by omega⟩
 have h1:1+countL (countT n) e.t.f4≤7:=hc7
 have:=countL_mem (f:=countT n) hu
 omega
end Go.Proofs.YtjckhhecnebmmaaGreatDoor.TU
end
section
namespace Go.Proofs.YtjckhhecnebmmaaGreatDoor.TU
open Go.RowKit Go.Proofs.YtjckhhecnebmmaaGreatDoorW.PrintWords Go.Proofs.YtjckhhecnebmmaaGreatDoorW.PrintLast Go.Proofs.YtjckhhecnebmmaaGreatDoorW.PrintMore Go.Proofs.YtjckhhecnebmmaaGreatDoor.QAll
attribute [local go_sem] max2_int min2_int max_two min_two max_three min_three max_four min_four
set_option linter.unusedVariables false
theorem TIn.own {w:World} {o o':Own} (h:∀ k,o k=0→o' k=0):∀ (n:Nat) (A:Option Addr) (l:List S35),TIn w o n A l→TIn w o' n A l:=by
 intro n
 induction n with
 | zero=>intro A l ht;exact ht
 | succ n ih =>
  intro A l ht
  refine ⟨ht.1,fun i x hx=>?_⟩
  obtain ⟨ad,Ai,ci,e,hl,ho,a0,a1,a2,a3,a4,hc,hn⟩:=ht.2 i x hx
  exact ⟨ad,Ai,ci,e,hl,h _ ho,a0,a1,a2,a3,a4,hc,ih _ _ hn⟩
theorem filter_take_succ (l:List Ev) (i:Nat) (h:i < l.length):(l.take (i+1)).filter good=(l.take i).filter good++(if good l[i]=true then [l[i]]else []):=by
 rw [List.take_succ_eq_append_getElem h,List.filter_append]
 congr 1
 by_cases hg:good l[i]=true
 ·rw [if_pos hg];simp [hg]
 ·rw [if_neg hg];simp [hg]
theorem smallL_at (l:List Ev) (i:Nat) (h:i=l.length∨14≤((l.take i).filter good).length) (h14:((l.take i).filter good).length≤14):smallL l=(l.take i).filter good:=by
 unfold smallL
 rcases h with rfl | h
 ·rw [List.take_length]at h14 ⊢
  exact List.take_of_length_le h14
 ·have e:l.filter good=(l.take i).filter good++(l.drop i).filter good:=by rw [← List.filter_append,List.take_append_drop]
  rw [e,List.take_append_of_le_length (by omega),List.take_of_length_le h14]
theorem EvRow.snoc {W w1:World} {o o1:Own} {t:Nat} {v1:Value} {rs:List EvB} {l:List Ev} {r:EvB} {e:Ev} (hl:rs.length=l.length) (hr:∀ (i:Nat) (r:EvB) (e:Ev),rs[i]?=some r→l[i]?=some e→EvRel W o r e) (h:Row kEV 37 w1 o1 t v1 (rs++[r])) (f:Kp (·=t) W o w1 o1) (ht:t≠0) (hn:EvRel W o r e):EvRow w1 o1 t v1 (l++[e]):=by
 refine ⟨_,h,by simp [hl],fun i r' e' hi he=>?_⟩
 rcases Nat.lt_trichotomy i rs.length with hlt | heq | hgt
 ·rw [List.getElem?_append_left hlt]at hi
  rw [List.getElem?_append_left (by omega)]at he
  exact (hr i r' e' hi he).fr f (fun h=>ht h.symm)
 ·subst heq
  rw [List.getElem?_append_right (Nat.le_refl _),Nat.sub_self]at hi
  rw [hl,List.getElem?_append_right (Nat.le_refl _),Nat.sub_self]at he
  injection hi with hi
  injection he with he
  subst hi
  subst he
  exact hn.fr f (fun h=>ht h.symm)
 ·rw [List.getElem?_eq_none (by simp;omega)]at hi
  cases hi
theorem FIN (w:World) (o:Own) (τ:Nat) (wr:World) (o1:Own) (hT:∀ k,k < w.heap.size→o k < τ) (hz:τ≠0) (hf:Fr (·=τ) w o wr o1) (A3:Option Addr) (c3 q:Nat) (sl:List Ev) (hq:q=sl.length) (hr:EvRow wr o1 τ (.slice A3 q c3) sl) :
  ∃ o' A' c',Ending.returned (.slice A3 q c3)=Ending.returned (.slice A' sl.length c')∧EvRow wr o' 0 (.slice A' sl.length c') sl∧Fr (fun _=>False) w o wr o':=by
 obtain ⟨rs,h1,h2,h3⟩:=hr
 subst hq
 refine ⟨fun k=>if o1 k=τ then 0 else o1 k,A3,c3,rfl,⟨rs,Kd.R_mono h1 (fun k hk=>if_pos hk),h2,fun i r e hr he=>{ h3 i r e hr he with tin:=?_ }⟩,⟨hf.os,hf.tape,hf.output,hf.size,fun k hk=>?_,fun k hk _=>hf.block k hk ?_,fun k hk=>?_⟩⟩
 ·refine TIn.own (o:=o1) (fun k hk=>?_) _ _ _ (h3 i r e hr he).tin
  show (if o1 k=τ then 0 else o1 k)=0
  rw [if_neg (by omega)]
  exact hk
 ·have h:=hf.own k hk
  have:=hT k hk
  show (if _ then _ else _)=_
  rw [if_neg (by omega)]
  exact h
 ·have:=hT k hk
  omega
 ·left
  show (if _ then _ else _)=_
  rcases hf.new k hk with h | h
  ·split
   ·rfl
   ·exact h
  ·exact if_pos h
set_option maxHeartbeats 6400000 in
set_option maxRecDepth 20000 in
theorem small_calls {w:World} {o:Own} {n:Nat} {A:Option Addr} {c:Nat} {l:List Ev} (h:EvIn w o n A l) (hc:l.length≤c) :
  Calls Tryz.prog 4 #[.slice A l.length c] w fun e w'=>∃ o' A' c',e=.returned (.slice A' (smallL l).length c')∧EvRow w' o' 0 (.slice A' (smallL l).length c') (smallL l)∧Fr (fun _=>False) w o w' o':=by
 obtain ⟨τ,ht0,_,htau⟩:=fresh_tag o 0 w.heap.size
 have HI:=Lib.hid h
 have HT:=Lib.hid htau
 have hll:l.length≤9223372036854775807:=h.1
 have H0:=Lib.hid (show ∃ o1,Fr (·=τ) w o w o1∧EvRow w o1 τ (.slice none 0 0) []from ⟨_,Fr.start _ w o 0 (.inl rfl),[],Row.nil _ _ _ _ _,rfl,fun _ _ _ h=>by simp at h⟩)
 have HT0:=Lib.hid ht0
 clear h htau ht0
 go_enter Tryz.func4,Tryz.ntmps4
 go_wp2_with fail
 go_loopw [3,4] (fun s3 s4 wr=>∃ (i q:Nat) (A3:Option Addr) (c3:Nat),i≤l.length∧q≤14∧s3=.slice A3 q c3∧s4=.int .i64 i∧Hid (q=((l.take i).filter good).length)∧Hid (∃ o1,Fr (·=τ) w o wr o1∧EvRow wr o1 τ (.slice A3 q c3) ((l.take i).filter good))) (fun _ s4 _=>l.length - (intOf s4).toNat)
 case atStart=>exact ⟨0,0,none,0,Nat.zero_le _,by omega,rfl,rfl,rfl,by rw [List.take_zero];exact H0.out⟩
 case round =>
  obtain ⟨i,q,A3,c3,hi,hq,rfl,rfl,hql,o1,hf,hrow⟩:=hrel
  have HF:=Lib.hid hf
  have HR:=Lib.hid hrow
  have HQ:=Lib.hid hql.out
  clear hf hrow hql H0
  by_cases hlt:i < l.length
  ·by_cases hq14:q < 14
   ·obtain ⟨ad,At,ct,rfl,hadl,hado,⟨a0,a1,a2,a3,a4,a5,a6,a7⟩,hct,hT⟩:=(HI.out.fr HF.out.kp (by have:=HT0.out;omega)).2 i _ (List.getElem?_eq_getElem hlt)
    have hstep:=filter_take_succ l i hlt
    have hwf:=TIn.wf' hT
    generalize l[i]=e at *
    have HS:=Lib.hid hstep
    have HTT:=Lib.hid hT
    have HWF:=Lib.hid hwf
    have HCT:=Lib.hid hct
    have HQL:=Lib.hid hq14
    clear hstep hT hwf
    go_upto_region 5 with fail
    go_cut [38] (fun s38 wy=>s38=.bool (!good e)∧Hid (Below wr.heap.size wr wy))
    case first =>
     by_cases h4:e.kind=4
     ·have hg:good e=false:=by
       cases hg:good e
       ·rfl
       ·exact absurd h4 ((good_iff HWF.out).1 hg).1
      have HG:=Lib.hid hg
      rw [h4]at a0
      clear hg h4
      go_wp2_with fail
      go_meet
      exact ⟨by rw [HG.out];rfl,Below.refl _ _⟩
     ·by_cases h5:e.kind=5
      ·have hg:good e=false:=by
        cases hg:good e
        ·rfl
        ·exact absurd h5 ((good_iff HWF.out).1 hg).2.1
       have HG:=Lib.hid hg
       rw [h5]at a0
       clear hg h4 h5
       go_wp2_with fail
       go_meet
       exact ⟨by rw [HG.out];rfl,Below.refl _ _⟩
      ·obtain ⟨K,hd⟩:=deep_f _ e.t 7 HWF.out (by omega) (by omega)
       have hcall:=saturatetop_deep.calls K e.t.f0 e.t.f1 e.t.f2 e.t.f3 At ct e.t.f4 7 _ wr (TIn.C _ _ _ HTT.out) HCT.out hd
       have hg:(!good e)=decide (deepS (n+1) e.t 7 < 0):=by
        rw [Bool.eq_iff_iff]
        have:=good_iff HWF.out
        cases hge:good e
        ·rw [hge]at this
         simp only [Bool.not_false,decide_eq_true_eq,true_iff]
         by_cases hn:deepS (n+1) e.t 7 < 0
         ·exact hn
         ·exact absurd (this.2 ⟨h4,h5,by omega⟩) (by simp)
        ·have:=(this.1 hge).2.2
         simp only [Bool.not_true,decide_eq_true_eq]
         constructor
         ·intro h;cases h
         ·intro h;omega
       have h4b:(e.kind == 4)=false:=by simpa using h4
       have h5b:(e.kind == 5)=false:=by simpa using h5
       have HG:=Lib.hid hg
       have HCALL:=Lib.hid hcall
       clear hg h4 h5 hd hcall
       generalize deepS (n+1) e.t 7=dv at *
       go_wp2_with fail
       refine HCALL.out.mono ?_
       rintro e' w2 ⟨rfl,hb2⟩
       have HB2:=Lib.hid hb2
       clear hb2 HCALL
       go_wp2_with fail
       go_meet
       exact ⟨by rw [HG.out],HB2.out⟩
    case rest =>
    obtain ⟨rfl,hb⟩:=hcut
    obtain ⟨o2,hf2,hrow2,T2⟩:∃ o2,Fr (·=τ) w o wc o2∧EvRow wc o2 τ (.slice A3 q c3) ((l.take i).filter good)∧TIn wc o2 n At e.t.f4 :=
     ⟨_,(HF.out.renew 0 (.inl rfl)).below hb,HR.out.fr (((Kp.refl (fun _=>False) wr o1).renew 0).below hb) (fun h=>h) (fun h=>h),TIn.fr (((Kp.refl (fun _=>False) wr o1).renew 0).below hb) (fun h=>h) _ _ _ HTT.out⟩
    have b0:=pw_cell_below hb a0
    have b1:=pw_cell_below hb a1
    have b2:=pw_cell_below hb a2
    have b3:=pw_cell_below hb a3
    have b4:=pw_cell_below hb a4
    have b5:=pw_cell_below hb a5
    have b6:=pw_cell_below hb a6
    have b7:=pw_cell_below hb a7
    have HF2:=Lib.hid hf2
    have HR2:=Lib.hid hrow2
    have HT2:=Lib.hid T2
    clear a0 a1 a2 a3 a4 a5 a6 a7 hf2 hrow2 T2 hb HF HR HTT
    refine (‹∀ (a:Act) (w:World),Code.wp _ _ _ a w→_›) _ _ ?_
    cases hge:good e with
    | false =>
     have hst:=HS.out
     rw [hge,if_neg (by simp),List.append_nil]at hst
     have HST:=Lib.hid hst
     clear hst hge b0 b1 b2 b3 b4 b5 b6 b7
     go_wp2_with fail
     go_roundw
     case rel=>exact ⟨i+1,q,A3,c3,by omega,by omega,rfl,by go_num,by rw [HST.out];exact HQ.out,o2,HF2.out,by rw [HST.out];exact HR2.out⟩
     case measure=>first | (simp [intOf];done) | (simp [intOf];omega)
    | true =>
     have hst:=HS.out
     rw [hge,if_pos rfl]at hst
     have hgs:=good_small HT2.out hge
     have HST:=Lib.hid hst
     have HGS:=Lib.hid hgs
     clear hst hge hgs
     obtain ⟨rs,hr1,hr2,hr3⟩:=HR2.out
     have hrq:rs.length=q:=by rw [hr2];exact HQ.out.symm
     subst hrq
     have HR3:=Lib.hid hr1
     have HL3:=Lib.hid hr2
     have HE3:=Lib.hid hr3
     clear hr1 hr2 hr3 HR2
     go_wp2_with ((with_reducible refine gate_builtin (b:=.append) (xs:=#[.tmp 39,.tmp 44]) rfl ?_);at_builtin;refine row_append kEV (Fr.start (·=τ) wc o2 0 (.inl rfl)) τ rfl rfl (.tmp 39) (.tmp 44) 22 37 (.agg #[.int .i64 0,.int .i64 0,.int .i64 0,.int .u64 0,.string ⟨#[]⟩,.slice none 0 0,.int .i64 0,.int .i64 0]) 88 rfl Tryz.underlying22 inf37 rfl (by decide) (by omega) (.slice A3 rs.length c3) rs (⟨e.kind,e.t.f0,e.t.f1,e.t.f2,e.t.f3,⟨At,e.t.f4.length,ct⟩,e.a,e.b⟩:EvB) [.int .i64 e.kind,.int .i64 e.t.f0,.int .i64 e.t.f1,.int .u64 e.t.f2,.string e.t.f3,.slice At e.t.f4.length ct,.int .i64 e.a,.int .i64 e.b] rfl rfl ?aP (HR3.out.renew 0) ?aL ?_;(case aP=>exact rfl);(case aL=>omega);intro A7 c7 w7 h7 f7 k7;have H7:=Lib.hid h7;have F7:=Lib.hid f7;have K7:=Lib.hid k7;clear h7 f7 k7)
     go_roundw
     case measure=>first | (simp [intOf];done) | (simp [intOf];omega)
     case rel =>
      have hz:τ≠0:=by have:=HT0.out;omega
      have hsn:=EvRow.snoc (W:=wc) (o:=o2) HL3.out HE3.out H7.out (F7.out.kp) hz ⟨rfl,rfl,rfl,rfl,rfl,rfl,HCT.out,HGS.out.1,rfl,rfl,HGS.out.2⟩
      exact ⟨i+1,rs.length+1,A7,c7,by omega,by omega,rfl,by go_num,by rw [HST.out,List.length_append,← HL3.out];rfl,_,HF2.out.trans F7.out,by rw [HST.out];exact hsn⟩
   ·have hfin:=smallL_at l i (.inr (by have:=HQ.out;omega)) (by have:=HQ.out;omega)
    obtain rfl:q=14:=by omega
    have HFIN:=Lib.hid hfin
    clear hfin
    go_wp2_with fail
    go_ret
    exact FIN w o τ wr o1 HT.out (by have:=HT0.out;omega) HF.out A3 c3 14 (smallL l) (by rw [HFIN.out];have:=HQ.out;omega) (by rw [HFIN.out];exact HR.out)
  ·have hil:i=l.length:=by omega
   have hfin:=smallL_at l i (.inl hil) (by have:=HQ.out;omega)
   have HFIN:=Lib.hid hfin
   clear hfin
   go_wp2_with fail
   go_ret
   exact FIN w o τ wr o1 HT.out (by have:=HT0.out;omega) HF.out A3 c3 q (smallL l) (by rw [HFIN.out];exact HQ.out) (by rw [HFIN.out];exact HR.out)
end Go.Proofs.YtjckhhecnebmmaaGreatDoor.TU
end
section
namespace Go.Proofs.YtjckhhecnebmmaaGreatDoor.TU
open Go.RowKit Go.Proofs.YtjckhhecnebmmaaGreatDoorW.PrintWords Go.Proofs.YtjckhhecnebmmaaGreatDoorW.PrintLast Go.Proofs.YtjckhhecnebmmaaGreatDoorW.PrintMore Go.Proofs.YtjckhhecnebmmaaGreatDoor.QAll
attribute [local go_sem] max2_int min2_int max_two min_two max_three min_three max_four min_four
set_option linter.unusedVariables false
noncomputable def plStep (x:St × List Int × Nat) (e:Ev):St × List Int × Nat:=((evS x.1 e).1,(if (evS x.1 e).2.2=0 then x.2.1++[(evS x.1 e).2.1]else x.2.1),x.2.2+evCost x.1 e)
noncomputable def plAt (S:St) (m:Nat) (l:List Ev) (i:Nat):St × List Int × Nat:=(l.take i).foldl plStep (S,[],m)
theorem plAt_succ (S:St) (m:Nat) (l:List Ev) (i:Nat) (h:i < l.length):plAt S m l (i+1)=plStep (plAt S m l i) l[i]:=by
 unfold plAt
 rw [List.take_succ_eq_append_getElem h,List.foldl_append]
 rfl
theorem plAt_out (S:St) (m:Nat) (l:List Ev):∀ i,i≤l.length→(plAt S m l i).2.1.length≤i:=by
 intro i
 induction i with
 | zero=>intro _;exact Nat.le_refl _
 | succ i ih =>
  intro h
  have:=ih (by omega)
  rw [plAt_succ S m l i (by omega)]
  show (if _ then _ else _:List Int).length≤_
  split
  ·rw [List.length_append,List.length_singleton];omega
  ·omega
theorem EvOk.le {S:St} {m m':Nat} {e:Ev} (h:EvOk S m e) (hm:m'≤m):EvOk S m' e:={ h with m:=by have:=h.m;omega }
def PlOk (S:St) (m:Nat) (l:List Ev):Prop:=∀ (i:Nat) (h:i < l.length),l[i].kind≠4∧l[i].kind≠5∧EvOk (plAt S m l i).1 (plAt S m l i).2.2 l[i]
set_option maxHeartbeats 6400000 in
set_option maxRecDepth 20000 in
theorem tplay_calls {b s τ:Nat} (hb0:0 < b) (hτ:τ≠0) (hτb:¬ SM b τ) {w:World} {o:Own} {S:St} {m n B:Nat} (G:Gl B w o) (D:SessAt b w o s S m n) (l:List Ev) (A:Option Addr) (c:Nat) (hl:EvRow w o 0 (.slice A l.length c) l) (hn:n+l.length≤1000) (hok:PlOk S m l) :
  Calls Tryz.prog 6 #[.pointer (some ⟨s,0,none⟩),.slice A l.length c] w fun e w'=>∃ o' A' c',e=.returned (.slice A' (plAt S m l l.length).2.1.length c')∧SessAt b w' o' s (plAt S m l l.length).1 (plAt S m l l.length).2.2 (n+l.length)∧Fr (PM b τ) w o w' o'∧Row (Kd.int .i64) 3 w' o' τ (.slice A' (plAt S m l l.length).2.1.length c') (plAt S m l l.length).2.1:=by
 have h00:¬ PM b τ 0:=by unfold PM SM;omega
 have H0:=Lib.hid (show ∃ o1,SessAt b w o1 s (plAt S m l 0).1 (plAt S m l 0).2.2 (n+0)∧Fr (PM b τ) w o w o1∧Row (Kd.int .i64) 3 w o1 τ (.slice none 0 0) (plAt S m l 0).2.1 from ⟨_,D.fr ((Kp.refl (fun _=>False) w o).renew 0) (fun _ _ h=>h) (fun h=>h),Fr.start _ w o 0 (.inl rfl),Row.nil _ _ _ _ _⟩)
 have HG:=Lib.hid G
 have HL:=Lib.hid hl
 have HOK:=Lib.hid hok
 have HTB:=Lib.hid hτb
 have HT:=Lib.hid hτ
 have H00:=Lib.hid h00
 have HN:=Lib.hid hn
 have hlc:l.length≤c∧l.length≤9223372036854775807:=by
  obtain ⟨rs,h1,h2,_⟩:=hl
  have h3:=Kd.R_reads' h1
  have h4:=h3.2.2.2.1
  exact ⟨h3.2.1,by rw [← h2];exact h4⟩
 have hl9:=hlc.2
 clear G D hl hok h00 hτ hτb hlc
 go_enter Tryz.func6,Tryz.ntmps6
 go_wp2_with fail
 go_loopw [5,11] (fun s5 s11 wr=>∃ (i q:Nat) (A5:Option Addr) (c5:Nat),i≤l.length∧s5=.slice A5 q c5∧s11=.int .i64 i∧Hid (q=(plAt S m l i).2.1.length)∧Hid (∃ o1,SessAt b wr o1 s (plAt S m l i).1 (plAt S m l i).2.2 (n+i)∧Fr (PM b τ) w o wr o1∧Row (Kd.int .i64) 3 wr o1 τ (.slice A5 q c5) (plAt S m l i).2.1)) (fun _ s11 _=>l.length - (intOf s11).toNat)
 case atStart=>exact ⟨0,0,none,0,Nat.zero_le _,rfl,rfl,rfl,H0.out⟩
 case round =>
  obtain ⟨i,q,A5,c5,hi,rfl,rfl,hq,o1,hd,hf,hr⟩:=hrel
  have HQ:=Lib.hid hq.out
  have HD:=Lib.hid hd
  have HF:=Lib.hid hf
  have HR:=Lib.hid hr
  clear hq hd hf hr H0
  by_cases hlt:i < l.length
  ·obtain ⟨ad,At,ct,rfl,⟨a0,a1,a2,a3,a4,a5,a6,a7⟩,hct,hT,hfew⟩:=(HL.out.fr HF.out.kp H00.out H00.out).at (List.getElem?_eq_getElem hlt)
   have hstep:=plAt_succ S m l i hlt
   obtain ⟨hk4,hk5,hev⟩:=HOK.out i hlt
   generalize l[i]=e at *
   have hb1:=below_alloc (Below.refl wr.heap.size wr) (.cells (evc e At ct) 37)
   have k1:Kp (fun _=>False) wr o1 (wr.alloc (.cells (evc e At ct) 37)) (o1.from_ wr.heap.size 0):=((Kp.refl _ wr o1).renew 0).below hb1
   have hG1:=(HG.out.fr HF.out H00.out).on hb1
   have hcall:=Play_calls (b:=b) (s:=s) (τ:=b+38) (cost:=evCost (plAt S m l i).1 e) hb0 (by omega) hG1 (HD.out.fr k1 (fun _ _ h=>h) (fun h=>h)) (by have:=HN.out;omega) e At ct (TIn.fr k1 (fun h=>h) _ _ _ hT) hct (by omega) wr.heap.size ⟨blk_new _ _,Own.from_ge (Nat.le_refl _)⟩ (fun r=>r=evS (plAt S m l i).1 e)
    (fun w2 o2 g L G2 H2 hL2 hT2 hs2 hc2=>(play_calls hb0 G2 H2 e hk4 hk5 (hev.le hL2) At ct hT2 hct hs2 hc2).mono (fun e' w' h=>⟨_,rfl,by
     obtain ⟨o3,L3,x1,x2,x3,x4⟩:=h
     exact ⟨o3,L3,x1,x2,by omega,x4⟩⟩))
   have HCALL:=Lib.hid hcall
   have HS:=Lib.hid hstep
   have F1:=Lib.hid (show Fr (PM b τ) wr o1 (wr.alloc (.cells (evc e At ct) 37)) (o1.from_ wr.heap.size 0)from Fr.of_below hb1 0 (.inl rfl))
   have HR1:=Lib.hid (HR.out.fr k1 (fun h=>h))
   clear hstep hk4 hk5 hev hcall hT hfew hG1 hb1 k1
   simp only [evc]at *
   go_wp2_with fail
   refine HCALL.out.mono ?_
   rintro e' w2 ⟨r,v,o2,rfl,rfl,hd2,hf2,hr2⟩
   have HD2:=Lib.hid hd2
   have HF2:=Lib.hid hf2
   have HR2:=Lib.hid hr2
   clear hd2 hf2 hr2 HCALL a0 a1 a2 a3 a4 a5 a6 a7
   have HR3:=Lib.hid (HR1.out.fr HF2.out.kp (fun h=>HTB.out (h.elim id (fun e=>by rw [e];unfold SM;omega))))
   have FF:=Lib.hid (HF.out.trans (F1.out.trans (HF2.out.mono (fun x h=>(.inl (h.elim id (fun e=>by subst e;unfold SM;omega)):PM b τ x)))))
   by_cases he:(evS (plAt S m l i).1 e).2.2=0
   ·have hs:plAt S m l (i+1)=((evS (plAt S m l i).1 e).1,(plAt S m l i).2.1++[(evS (plAt S m l i).1 e).2.1],(plAt S m l i).2.2+evCost (plAt S m l i).1 e):=by
     rw [HS.out]
     show (_,(if _ then _ else _),_)=_
     rw [if_pos he]
    have hr:=HR2.out he
    obtain ⟨A6,c6,hv⟩:=hr.slice
    subst hv
    have HS2:=Lib.hid hs
    have HR6:=Lib.hid hr
    rw [he]
    have hol:=plAt_out S m l i (by omega)
    clear hs hr he HS HR HR1 HR2 F1 HF HD
    generalize evS (plAt S m l i).1 e=r at *
    generalize (plAt S m l i).2.1=out at *
    have hq:=HQ.out
    have HQ2:=Lib.hid hq
    subst hq
    have hn1:=HN.out
    have HC6:=Lib.hid ((Kd.R_reads' HR6.out).2.2)
    go_wp2_with ((with_reducible refine gate_builtin (b:=.append) (xs:=#[.tmp 26,.tmp 27]) rfl ?_);at_builtin;refine row_rows (Kd.int .i64) (Fr.start (·=τ) w2 o2 0 (.inl rfl)) τ (.inr rfl) rfl (.tmp 26) (.tmp 27) 26 3 (.int .i64 0) 8 rfl Tryz.underlying26 inf3 rfl (by decide) (by omega) (.slice A5 out.length c5) out [r.2.1] A6 1 c6 rfl rfl (HR3.out.renew 0) HC6.out (fun _ _ h=>h) ?aO ?aL ?_;(case aO=>intro k hk;have hk2:=(Kd.R_bound HR3.out).1 k hk;left;exact (Own.from_lt hk2.2.2.1).trans hk2.1);(case aL=>omega);intro A7 c7 w7 h7 f7 k7 _;have H7:=Lib.hid h7;have F7:=Lib.hid f7;have K7:=Lib.hid k7;clear h7 f7 k7)
    go_roundw
    case measure=>first | (simp [intOf];done) | (simp [intOf];omega)
    case rel =>
     have hz:¬ (0=τ):=fun h=>HT.out h.symm
     exact ⟨i+1,out.length+1,A7,c7,by omega,rfl,by go_num,(show out.length+1=(plAt S m l (i+1)).2.1.length by rw [HS2.out];simp),_,by rw [HS2.out];exact HD2.out.fr F7.out.kp (fun x hx h=>HTB.out (by subst h;unfold SA at hx;unfold SM;omega)) hz,FF.out.trans (F7.out.mono (fun x h=>(.inr h:PM b τ x))),by rw [HS2.out];exact H7.out⟩
   ·have heb:((evS (plAt S m l i).1 e).2.2 == 0)=false:=by simpa using he
    have hs:plAt S m l (i+1)=((evS (plAt S m l i).1 e).1,(plAt S m l i).2.1,(plAt S m l i).2.2+evCost (plAt S m l i).1 e):=by
     rw [HS.out]
     show (_,(if _ then _ else _),_)=_
     rw [if_neg he]
    have HS2:=Lib.hid hs
    clear hs he HS HR HR1 HR2 F1 HF HD
    generalize evS (plAt S m l i).1 e=r at *
    go_wp2_with fail
    go_roundw
    case measure=>first | (simp [intOf];done) | (simp [intOf];omega)
    case rel=>exact ⟨i+1,q,A5,c5,by omega,rfl,by go_num,by rw [HS2.out];exact HQ.out,o2,by rw [HS2.out];exact HD2.out,FF.out,by rw [HS2.out];exact HR3.out⟩
  ·have hil:i=l.length:=by omega
   subst hil
   go_wp2_with fail
   go_ret
   have h:=HQ.out
   subst h
   exact ⟨o1,A5,c5,rfl,HD.out,HF.out,HR.out⟩
end Go.Proofs.YtjckhhecnebmmaaGreatDoor.TU
end

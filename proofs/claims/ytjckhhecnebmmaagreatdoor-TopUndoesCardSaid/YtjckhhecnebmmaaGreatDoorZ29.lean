/- Steps towards the law TopUndoes; words printed by the kit, and printed texts, are cut to what is used, and spaces are left out. No condition. -/
import Derived.Test.YtjckhhecnebmmaaGreatDoorZ28
import Derived.Test.YtjckhhecnebmmaaGreatDoorZ7
set_option linter.unusedVariables false
set_option linter.unusedSimpArgs false
section
namespace Go.Proofs.YtjckhhecnebmmaaGreatDoor.TU
open Go.RowKit Go.Proofs.YtjckhhecnebmmaaGreatDoorW.PrintWords Go.Proofs.YtjckhhecnebmmaaGreatDoorW.PrintLast Go.Proofs.YtjckhhecnebmmaaGreatDoorW.PrintMore Go.Proofs.YtjckhhecnebmmaaGreatDoor.QAll
attribute [local go_sem] max2_int min2_int max_two min_two max_three min_three max_four min_four
set_option linter.unusedVariables false
theorem Row.empty2 {α:Type} (d:Kd α) (e:Nat) (w:World) (o:Own) (t:Nat) {n:Nat} (hn:w.heap.size=n):Row d e (w.alloc (.cells #[] e)) (o.from_ w.heap.size t) t (.slice (some ⟨n,0,none⟩) 0 0) []:=by
 subst hn
 exact Row.empty d e w o t
theorem inf98:(Tryz.prog.info? 98).map (fun i=>(i.zero,i.size,i.bytes))=some (some (.agg #[.int .i64 0,.int .i64 0,.int .i64 0,.slice none 0 0,.slice none 0 0,.bool false]),6,80):=by kernel_rfl
def MkM (τ:Nat):Nat→Prop:=fun x=>x=τ∨x=τ+1
theorem fresh_tag (o:Own) (b:Nat):∀ n,∃ τ,0 < τ∧b < τ∧∀ k,k < n→o k < τ:=by
 intro n
 induction n with
 | zero=>exact ⟨b+1,by omega,by omega,fun k h=>by omega⟩
 | succ n ih =>
  obtain ⟨τ,h1,h2,h3⟩:=ih
  refine ⟨τ+o n+1,by omega,by omega,fun k hk=>?_⟩
  by_cases h:k < n
  ·have:=h3 k h;omega
  ·have:k=n:=by omega
   subst this;omega
theorem mk_retag {w W:World} {o o1:Own} {τ:Nat} {v1 v2:Value} {rs:List NV} {l:List Int} (hτ:∀ k,k < w.heap.size→o k < τ) (f:Fr (MkM τ) w o W o1) (h1:Row kNV 56 W o1 τ v1 rs) (h2:Row (Kd.int .i64) 3 W o1 (τ+1) v2 l) :
  ∃ o2,Hid (Fr (fun _=>False) w o W o2)∧Hid (Row kNV 56 W o2 0 v1 rs)∧Hid (Row (Kd.int .i64) 3 W o2 0 v2 l):=by
 refine ⟨fun k=>if o1 k=τ∨o1 k=τ+1 then 0 else o1 k,⟨f.os,f.tape,f.output,f.size,fun k hk=>?_,fun k hk _=>f.block k hk ?_,fun k hk=>?_⟩,Kd.R_mono h1 (fun k hk=>if_pos (.inl hk)),Kd.R_mono h2 (fun k hk=>if_pos (.inr hk))⟩
 ·have h:=f.own k hk
  have:=hτ k hk
  show (if _ then _ else _)=_
  rw [if_neg (by omega)]
  exact h
 ·have:=hτ k hk
  unfold MkM
  omega
 ·left
  show (if _ then _ else _)=_
  rcases f.new k hk with h | h
  ·split
   ·rfl
   ·exact h
  ·exact if_pos h
def MkJ (τ:Nat) (w:World) (o:Own) (rs:List NV) (W:World) (A:Option Addr) (c b3:Nat):Prop:=∃ o1,Fr (MkM τ) w o W o1∧Row kNV 56 W o1 τ (.slice A rs.length c) rs∧Row (Kd.int .i64) 3 W o1 (τ+1) (.slice (some ⟨b3,0,none⟩) 0 0) []
theorem MarksRow.snoc {w w1:World} {o o1:Own} {t:Nat} {ms:List Mk} {v1:Value} {rs:List MV} {r:MV} {m:Mk} (hl:rs.length=ms.length) (hr:∀ (i:Nat) (r:MV) (m:Mk),rs[i]?=some r→ms[i]?=some m→MarkOk w o r m)
  (h:Row kMV 98 w1 o1 t v1 (rs++[r])) (f:Kp (·=t) w o w1 o1) (ht:t≠0) (hm:MarkOk w1 o1 r m):MarksRow w1 o1 t v1 (ms++[m]):=by
 refine ⟨_,h,by simp [hl],fun i r' m' hi hm'=>?_⟩
 rcases Nat.lt_trichotomy i rs.length with h1 | h1 | h1
 ·rw [List.getElem?_append_left h1]at hi
  rw [List.getElem?_append_left (by omega)]at hm'
  exact (hr i r' m' hi hm').fr f (fun e=>ht e.symm)
 ·subst h1
  rw [List.getElem?_append_right (Nat.le_refl _),Nat.sub_self]at hi
  rw [hl,List.getElem?_append_right (Nat.le_refl _),Nat.sub_self]at hm'
  obtain rfl:=Option.some.inj hi
  obtain rfl:=Option.some.inj hm'
  exact hm
 ·rw [List.getElem?_eq_none (by simp;omega)]at hi
  cases hi
def newMk (S:St):Mk:=⟨S.ns.length,S.L.length,S.t.length,S.ks,S.todo,S.dirty⟩
set_option maxHeartbeats 12800000 in
set_option maxRecDepth 20000 in
theorem gmark_calls {b g:Nat} {w:World} {o:Own} {S:St} (H:GraphAt b w o g S) (hS:Fine S) (hms:S.ms.length≤1000) :
  Calls Tryz.prog 28 #[.pointer (some ⟨g,0,none⟩)] w fun e w'=>∃ o',e=.returned (.int .i64 S.ms.length)∧GraphAt b w' o' g { S with ms:=S.ms++[newMk S] }∧Fr (GraphM b) w o w' o':=by
 obtain ⟨cb,C,h1,h2⟩:=id H
 have c0:w.cell? ⟨g,0,none⟩=some (.pointer (some ⟨cb,0,none⟩)):=(blk_cell h1.1 0).trans rfl
 obtain ⟨sg,vn,vk,vu,eg,tg,fg,mv,vt,vm⟩:=C
 obtain ⟨An,cn,hvn⟩:=h2.nodes.slice
 obtain ⟨rs0,hR0,hm0,hI0⟩:=h2.keys
 obtain ⟨Ak,ck,hvk⟩:=hR0.slice
 obtain ⟨At,ct,hvt⟩:=h2.todo.slice
 obtain ⟨rsm,hRm,hlm,hMm⟩:=h2.marks
 obtain ⟨Am,cm,hvm⟩:=hRm.slice
 simp only at hvn hvk hvt hvm
 subst hvn hvk hvt hvm
 simp only at hR0 hRm
 rw [hlm]at hRm
 have few:=hS.few
 have hL10:S.L.length≤1000:=by have:=hS.hL;omega
 have htd:=hS.todo
 have hlen:rs0.length≤600:=by
  have h:=congrArg List.length hm0
  rw [List.length_map]at h
  have:=hS.hk
  omega
 have hml:rsm.length≤1000:=by omega
 obtain ⟨τ,hτ0,hτb,hτ⟩:=fresh_tag o (b+20) w.heap.size
 have LIM:=Lib.hid (fun W o' (f:Fr (MkM τ) w o W o')=>h2.fr f.kp (fun x hx=>by unfold CoreM at hx;unfold MkM;omega) (by unfold MkM;omega))
 have LIMJ:=Lib.hid (fun W o' (f:Fr (fun _=>False) w o W o')=>h2.fr f.kp (fun _ _ h=>h) (fun h=>h))
 have LC:=Lib.hid (fun W o' (f:Fr (MkM τ) w o W o')=>show W.cell? ⟨cb,10,none⟩=some (.slice Am S.ms.length cm)∧W.cell? ⟨cb,1,none⟩=some (.slice An S.ns.length cn)∧W.cell? ⟨cb,6,none⟩=some (.pointer (some ⟨fg,0,none⟩))∧W.cell? ⟨cb,0,none⟩=some (.pointer (some ⟨sg,0,none⟩))∧W.cell? ⟨cb,2,none⟩=some (.slice Ak rs0.length ck)∧W.cell? ⟨cb,8,none⟩=some (.slice At S.todo.length ct)∧W.cell? ⟨cb,9,none⟩=some (.bool S.dirty)from ⟨(by have h:=(LIM.out W o' f).at10;simp only [hlm]at h;exact h),(LIM.out W o' f).at1,(LIM.out W o' f).at6,(LIM.out W o' f).at0,(LIM.out W o' f).at2,(LIM.out W o' f).at8,(LIM.out W o' f).at9⟩)
 have LCJ:=Lib.hid (fun W o' (f:Fr (fun _=>False) w o W o')=>show W.cell? ⟨cb,10,none⟩=some (.slice Am S.ms.length cm)∧W.cell? ⟨cb,1,none⟩=some (.slice An S.ns.length cn)∧W.cell? ⟨cb,6,none⟩=some (.pointer (some ⟨fg,0,none⟩))∧W.cell? ⟨cb,0,none⟩=some (.pointer (some ⟨sg,0,none⟩))∧W.cell? ⟨cb,2,none⟩=some (.slice Ak rs0.length ck)∧W.cell? ⟨cb,8,none⟩=some (.slice At S.todo.length ct)∧W.cell? ⟨cb,9,none⟩=some (.bool S.dirty)from ⟨(by have h:=(LIMJ.out W o' f).at10;simp only [hlm]at h;exact h),(LIMJ.out W o' f).at1,(LIMJ.out W o' f).at6,(LIMJ.out W o' f).at0,(LIMJ.out W o' f).at2,(LIMJ.out W o' f).at8,(LIMJ.out W o' f).at9⟩)
 have RC:=Lib.hid (fun W o' (f:Fr (MkM τ) w o W o')=>show kNV.C W Ak rs0.length rs0 by
  obtain ⟨A',c',e',_,hC⟩:=Kd.R_reads (hR0.fr f.kp (by unfold MkM;omega))
  injection e' with e1 e2 e3
  subst e1
  exact hC)
 have RT:=Lib.hid (fun W o' (f:Fr (MkM τ) w o W o')=>show (Kd.int .i64).C W At S.todo.length S.todo by
  obtain ⟨A',c',e',_,hC⟩:=Kd.R_reads (h2.todo.fr f.kp (by unfold MkM;omega))
  injection e' with e1 e2 e3
  subst e1
  exact hC)
 have HF0':=Lib.hid (Fr.start (MkM τ) w o 0 (.inl rfl)).drew
 obtain ⟨o0,HF0⟩:∃ o0,Hid (Fr (MkM τ) w o w.drew o0):=⟨_,HF0'⟩
 have HRM:=Lib.hid hRm
 have HMM:=Lib.hid hMm
 have HI0:=Lib.hid hI0
 have HM0:=Lib.hid hm0
 have H1:=Lib.hid h1
 have HLM:=Lib.hid hlm
 clear HF0' h1 h2 hR0 hRm hMm hI0 hm0 hlm
 go_enter Tryz.func28,Tryz.ntmps28
 go_wp2_with fail
 refine (gmade_calls c0).mono ?_
 rintro e w' ⟨rfl,rfl⟩
 go_upto_region 4 with fail
 refine start_ (n:=42) (S:=fun w'=>w'.cell? ⟨cb,10,none⟩=some (.slice Am S.ms.length cm)∧w'.cell? ⟨cb,1,none⟩=some (.slice An S.ns.length cn)∧w'.cell? ⟨cb,6,none⟩=some (.pointer (some ⟨fg,0,none⟩))∧w'.cell? ⟨cb,0,none⟩=some (.pointer (some ⟨sg,0,none⟩))∧w'.cell? ⟨cb,2,none⟩=some (.slice Ak rs0.length ck)∧w'.cell? ⟨cb,8,none⟩=some (.slice At S.todo.length ct)∧w'.cell? ⟨cb,9,none⟩=some (.bool S.dirty)) (ds:=[41]) #[false,false,false,false,false,false,false,false,false,false,false,false,false,false,false,false,false,false,false,false,false,false,false,false,false,false,false,false,false,false,false,false,false,false,false,false,false,false,false,false,false,false] (by kernel_rfl) rfl rfl (LC.out _ _ HF0.out) (fun hHeld=>?_)
 refine pure_ (i:=0) (N:=some 11) (v:=?_) (a':=?_) #[true,false,false,false,false,false,false,false,false,false,false,false,false,false,false,false,false,false,false,false,false,false,false,false,false,false,false,false,false,false,false,false,false,false,false,false,false,false,false,false,false,false] rfl rfl (by kernel_rfl) (fun _ _ _ h=>h) (Or.inl ⟨by rfl,?_⟩) ?_ ?_
 rotate_left
 ·intro w'
  go_simp
  with_reducible rfl
 rotate_left
 ·simp only [Act.put,List.setIfInBounds_toArray,List.set_cons_zero,List.set_cons_succ,i64_w,i32_w]
  rfl
 refine pure_ (i:=1) (N:=some 12) (v:=?_) (a':=?_) #[true,true,false,false,false,false,false,false,false,false,false,false,false,false,false,false,false,false,false,false,false,false,false,false,false,false,false,false,false,false,false,false,false,false,false,false,false,false,false,false,false,false] rfl rfl (by kernel_rfl) (fun _ _ _ h=>h) (Or.inl ⟨by rfl,?_⟩) ?_ ?_
 rotate_left
 ·intro w'
  go_simp
  with_reducible rfl
 rotate_left
 ·simp only [Act.put,List.setIfInBounds_toArray,List.set_cons_zero,List.set_cons_succ,i64_w,i32_w]
  rfl
 refine pure_ (i:=2) (N:=some 13) (v:=?_) (a':=?_) #[true,true,true,false,false,false,false,false,false,false,false,false,false,false,false,false,false,false,false,false,false,false,false,false,false,false,false,false,false,false,false,false,false,false,false,false,false,false,false,false,false,false] rfl rfl (by kernel_rfl) (fun _ _ _ h=>h) (Or.inl ⟨by rfl,?_⟩) ?_ ?_
 rotate_left
 ·intro w'
  go_simp
  with_reducible rfl
 rotate_left
 ·simp only [Act.put,List.setIfInBounds_toArray,List.set_cons_zero,List.set_cons_succ,i64_w,i32_w]
  rfl
 refine pure_ (i:=3) (N:=some 14) (v:=?_) (a':=?_) #[true,true,true,true,false,false,false,false,false,false,false,false,false,false,false,false,false,false,false,false,false,false,false,false,false,false,false,false,false,false,false,false,false,false,false,false,false,false,false,false,false,false] rfl rfl (by kernel_rfl) (fun _ _ _ h=>h) (Or.inl ⟨by rfl,?_⟩) ?_ ?_
 rotate_left
 ·intro w'
  go_simp
  with_reducible rfl
 rotate_left
 ·simp only [Act.put,List.setIfInBounds_toArray,List.set_cons_zero,List.set_cons_succ,i64_w,i32_w]
  rfl
 refine pure_ (i:=5) (N:=some 16) (v:=?_) (a':=?_) #[true,true,true,true,false,true,false,false,false,false,false,false,false,false,false,false,false,false,false,false,false,false,false,false,false,false,false,false,false,false,false,false,false,false,false,false,false,false,false,false,false,false] rfl rfl (by kernel_rfl) (fun _ _ _ h=>h) (Or.inl ⟨by rfl,?_⟩) ?_ ?_
 rotate_left
 ·intro w'
  go_simp
  with_reducible rfl
 rotate_left
 ·simp only [Act.put,List.setIfInBounds_toArray,List.set_cons_zero,List.set_cons_succ,i64_w,i32_w]
  rfl
 refine pure_ (i:=6) (N:=some 17) (v:=?_) (a':=?_) #[true,true,true,true,false,true,true,false,false,false,false,false,false,false,false,false,false,false,false,false,false,false,false,false,false,false,false,false,false,false,false,false,false,false,false,false,false,false,false,false,false,false] rfl rfl (by kernel_rfl) (fun _ _ _ h=>h) (Or.inl ⟨by rfl,?_⟩) ?_ ?_
 rotate_left
 ·intro w'
  go_simp
  with_reducible rfl
 rotate_left
 ·simp only [Act.put,List.setIfInBounds_toArray,List.set_cons_zero,List.set_cons_succ,i64_w,i32_w]
  rfl
 refine pure_ (i:=7) (N:=some 18) (v:=?_) (a':=?_) #[true,true,true,true,false,true,true,true,false,false,false,false,false,false,false,false,false,false,false,false,false,false,false,false,false,false,false,false,false,false,false,false,false,false,false,false,false,false,false,false,false,false] rfl rfl (by kernel_rfl) (fun _ _ _ h=>h) (Or.inl ⟨by rfl,?_⟩) ?_ ?_
 rotate_left
 ·intro w'
  go_simp
  with_reducible rfl
 rotate_left
 ·simp only [Act.put,List.setIfInBounds_toArray,List.set_cons_zero,List.set_cons_succ,i64_w,i32_w]
  rfl
 refine pure_ (i:=10) (N:=some 21) (v:=?_) (a':=?_) #[true,true,true,true,false,true,true,true,false,false,true,false,false,false,false,false,false,false,false,false,false,false,false,false,false,false,false,false,false,false,false,false,false,false,false,false,false,false,false,false,false,false] rfl rfl (by kernel_rfl) (fun _ _ _ h=>h) (Or.inl ⟨by rfl,?_⟩) ?_ ?_
 rotate_left
 ·intro w'
  go_simp
  with_reducible rfl
 rotate_left
 ·simp only [Act.put,List.setIfInBounds_toArray,List.set_cons_zero,List.set_cons_succ,i64_w,i32_w]
  rfl
 refine pure_ (i:=11) (N:=some 22) (v:=?_) (a':=?_) #[true,true,true,true,false,true,true,true,false,false,true,true,false,false,false,false,false,false,false,false,false,false,false,false,false,false,false,false,false,false,false,false,false,false,false,false,false,false,false,false,false,false] rfl rfl (by kernel_rfl) (fun _ _ _ h=>h) (Or.inl ⟨by rfl,?_⟩) ?_ ?_
 rotate_left
 ·intro w'
  go_simp
  with_reducible rfl
 rotate_left
 ·simp only [Act.put,List.setIfInBounds_toArray,List.set_cons_zero,List.set_cons_succ,i64_w,i32_w]
  rfl
 refine pure_ (i:=12) (N:=some 23) (v:=?_) (a':=?_) #[true,true,true,true,false,true,true,true,false,false,true,true,true,false,false,false,false,false,false,false,false,false,false,false,false,false,false,false,false,false,false,false,false,false,false,false,false,false,false,false,false,false] rfl rfl (by kernel_rfl) (fun _ _ _ h=>h) (Or.inl ⟨by rfl,?_⟩) ?_ ?_
 rotate_left
 ·intro w'
  go_simp
  with_reducible rfl
 rotate_left
 ·simp only [Act.put,List.setIfInBounds_toArray,List.set_cons_zero,List.set_cons_succ,i64_w,i32_w]
  rfl
 refine pure_ (i:=15) (N:=some 26) (v:=?_) (a':=?_) #[true,true,true,true,false,true,true,true,false,false,true,true,true,false,false,true,false,false,false,false,false,false,false,false,false,false,false,false,false,false,false,false,false,false,false,false,false,false,false,false,false,false] rfl rfl (by kernel_rfl) (fun _ _ _ h=>h) (Or.inl ⟨by rfl,?_⟩) ?_ ?_
 rotate_left
 ·intro w'
  go_simp
  with_reducible rfl
 rotate_left
 ·simp only [Act.put,List.setIfInBounds_toArray,List.set_cons_zero,List.set_cons_succ,i64_w,i32_w]
  rfl
 refine pure_ (i:=16) (N:=some 27) (v:=?_) (a':=?_) #[true,true,true,true,false,true,true,true,false,false,true,true,true,false,false,true,true,false,false,false,false,false,false,false,false,false,false,false,false,false,false,false,false,false,false,false,false,false,false,false,false,false] rfl rfl (by kernel_rfl) (fun _ _ _ h=>h) (Or.inl ⟨by rfl,?_⟩) ?_ ?_
 rotate_left
 ·intro w'
  go_simp
  with_reducible rfl
 rotate_left
 ·simp only [Act.put,List.setIfInBounds_toArray,List.set_cons_zero,List.set_cons_succ,i64_w,i32_w]
  rfl
 refine pure_ (i:=17) (N:=some 28) (v:=?_) (a':=?_) #[true,true,true,true,false,true,true,true,false,false,true,true,true,false,false,true,true,true,false,false,false,false,false,false,false,false,false,false,false,false,false,false,false,false,false,false,false,false,false,false,false,false] rfl rfl (by kernel_rfl) (fun _ _ _ h=>h) (Or.inl ⟨by rfl,?_⟩) ?_ ?_
 rotate_left
 ·intro w'
  go_simp
  with_reducible rfl
 rotate_left
 ·simp only [Act.put,List.setIfInBounds_toArray,List.set_cons_zero,List.set_cons_succ,i64_w,i32_w]
  rfl
 refine pure_ (i:=21) (N:=some 32) (v:=?_) (a':=?_) #[true,true,true,true,false,true,true,true,false,false,true,true,true,false,false,true,true,true,false,false,false,true,false,false,false,false,false,false,false,false,false,false,false,false,false,false,false,false,false,false,false,false] rfl rfl (by kernel_rfl) (fun _ _ _ h=>h) (Or.inl ⟨by rfl,?_⟩) ?_ ?_
 rotate_left
 ·intro w'
  go_simp
  with_reducible rfl
 rotate_left
 ·simp only [Act.put,List.setIfInBounds_toArray,List.set_cons_zero,List.set_cons_succ,i64_w,i32_w]
  rfl
 refine pure_ (i:=22) (N:=some 33) (v:=?_) (a':=?_) #[true,true,true,true,false,true,true,true,false,false,true,true,true,false,false,true,true,true,false,false,false,true,true,false,false,false,false,false,false,false,false,false,false,false,false,false,false,false,false,false,false,false] rfl rfl (by kernel_rfl) (fun _ _ _ h=>h) (Or.inl ⟨by rfl,?_⟩) ?_ ?_
 rotate_left
 ·intro w'
  go_simp
  with_reducible rfl
 rotate_left
 ·simp only [Act.put,List.setIfInBounds_toArray,List.set_cons_zero,List.set_cons_succ,i64_w,i32_w]
  rfl
 refine pure_ (i:=23) (N:=some 34) (v:=?_) (a':=?_) #[true,true,true,true,false,true,true,true,false,false,true,true,true,false,false,true,true,true,false,false,false,true,true,true,false,false,false,false,false,false,false,false,false,false,false,false,false,false,false,false,false,false] rfl rfl (by kernel_rfl) (fun _ _ _ h=>h) (Or.inl ⟨by rfl,?_⟩) ?_ ?_
 rotate_left
 ·intro w'
  go_simp
  with_reducible rfl
 rotate_left
 ·simp only [Act.put,List.setIfInBounds_toArray,List.set_cons_zero,List.set_cons_succ,i64_w,i32_w]
  rfl
 refine pure_ (i:=27) (N:=some 38) (v:=?_) (a':=?_) #[true,true,true,true,false,true,true,true,false,false,true,true,true,false,false,true,true,true,false,false,false,true,true,true,false,false,false,true,false,false,false,false,false,false,false,false,false,false,false,false,false,false] rfl rfl (by kernel_rfl) (fun _ _ _ h=>h) (Or.inl ⟨by rfl,?_⟩) ?_ ?_
 rotate_left
 ·intro w'
  go_simp
  with_reducible rfl
 rotate_left
 ·simp only [Act.put,List.setIfInBounds_toArray,List.set_cons_zero,List.set_cons_succ,i64_w,i32_w]
  rfl
 refine pure_ (i:=28) (N:=some 39) (v:=?_) (a':=?_) #[true,true,true,true,false,true,true,true,false,false,true,true,true,false,false,true,true,true,false,false,false,true,true,true,false,false,false,true,true,false,false,false,false,false,false,false,false,false,false,false,false,false] rfl rfl (by kernel_rfl) (fun _ _ _ h=>h) (Or.inl ⟨by rfl,?_⟩) ?_ ?_
 rotate_left
 ·intro w'
  go_simp
  with_reducible rfl
 rotate_left
 ·simp only [Act.put,List.setIfInBounds_toArray,List.set_cons_zero,List.set_cons_succ,i64_w,i32_w]
  rfl
 refine pure_ (i:=29) (N:=some 40) (v:=?_) (a':=?_) #[true,true,true,true,false,true,true,true,false,false,true,true,true,false,false,true,true,true,false,false,false,true,true,true,false,false,false,true,true,true,false,false,false,false,false,false,false,false,false,false,false,false] rfl rfl (by kernel_rfl) (fun _ _ _ h=>h) (Or.inl ⟨by rfl,?_⟩) ?_ ?_
 rotate_left
 ·intro w'
  go_simp
  with_reducible rfl
 rotate_left
 ·simp only [Act.put,List.setIfInBounds_toArray,List.set_cons_zero,List.set_cons_succ,i64_w,i32_w]
  rfl
 refine pure_ (i:=32) (N:=some 43) (v:=?_) (a':=?_) #[true,true,true,true,false,true,true,true,false,false,true,true,true,false,false,true,true,true,false,false,false,true,true,true,false,false,false,true,true,true,false,false,true,false,false,false,false,false,false,false,false,false] rfl rfl (by kernel_rfl) (fun _ _ _ h=>h) (Or.inl ⟨by rfl,?_⟩) ?_ ?_
 rotate_left
 ·intro w'
  go_simp
  with_reducible rfl
 rotate_left
 ·simp only [Act.put,List.setIfInBounds_toArray,List.set_cons_zero,List.set_cons_succ,i64_w,i32_w]
  rfl
 refine pure_ (i:=33) (N:=some 44) (v:=?_) (a':=?_) #[true,true,true,true,false,true,true,true,false,false,true,true,true,false,false,true,true,true,false,false,false,true,true,true,false,false,false,true,true,true,false,false,true,true,false,false,false,false,false,false,false,false] rfl rfl (by kernel_rfl) (fun _ _ _ h=>h) (Or.inl ⟨by rfl,?_⟩) ?_ ?_
 rotate_left
 ·intro w'
  go_simp
  with_reducible rfl
 rotate_left
 ·simp only [Act.put,List.setIfInBounds_toArray,List.set_cons_zero,List.set_cons_succ,i64_w,i32_w]
  rfl
 refine pure_ (i:=34) (N:=some 45) (v:=?_) (a':=?_) #[true,true,true,true,false,true,true,true,false,false,true,true,true,false,false,true,true,true,false,false,false,true,true,true,false,false,false,true,true,true,false,false,true,true,true,false,false,false,false,false,false,false] rfl rfl (by kernel_rfl) (fun _ _ _ h=>h) (Or.inl ⟨by rfl,?_⟩) ?_ ?_
 rotate_left
 ·intro w'
  go_simp
  with_reducible rfl
 rotate_left
 ·simp only [Act.put,List.setIfInBounds_toArray,List.set_cons_zero,List.set_cons_succ,i64_w,i32_w]
  rfl
 refine take_ (i:=4) (N:=some 15) (v:=?_) (a':=?_) #[true,true,true,true,true,true,true,true,false,false,true,true,true,false,false,true,true,true,false,false,false,true,true,true,false,false,false,true,true,true,false,false,true,true,true,false,false,false,false,false,false,false] rfl rfl (by kernel_rfl) (fun _ _ _ h=>h) (Or.inl ⟨by rfl,?_⟩) hHeld ?_ ?_
 rotate_left
 ·rintro w' ⟨s0,s1,s2,s3,s4,s5,s6⟩
  go_simp
  with_reducible rfl
 rotate_left
 ·simp only [Act.put,List.setIfInBounds_toArray,List.set_cons_zero,List.set_cons_succ,i64_w,i32_w]
  rfl
 refine take_ (i:=8) (N:=some 19) (v:=?_) (a':=?_) #[true,true,true,true,true,true,true,true,true,false,true,true,true,false,false,true,true,true,false,false,false,true,true,true,false,false,false,true,true,true,false,false,true,true,true,false,false,false,false,false,false,false] rfl rfl (by kernel_rfl) (fun _ _ _ h=>h) (Or.inl ⟨by rfl,?_⟩) hHeld ?_ ?_
 rotate_left
 ·rintro w' ⟨s0,s1,s2,s3,s4,s5,s6⟩
  go_simp
  with_reducible rfl
 rotate_left
 ·simp only [Act.put,List.setIfInBounds_toArray,List.set_cons_zero,List.set_cons_succ,i64_w,i32_w]
  rfl
 refine pure_ (i:=9) (N:=some 20) (v:=?_) (a':=?_) #[true,true,true,true,true,true,true,true,true,true,true,true,true,false,false,true,true,true,false,false,false,true,true,true,false,false,false,true,true,true,false,false,true,true,true,false,false,false,false,false,false,false] rfl rfl (by kernel_rfl) (fun _ _ _ h=>h) (Or.inl ⟨by rfl,?_⟩) ?_ ?_
 rotate_left
 ·intro w'
  go_simp
  with_reducible rfl
 rotate_left
 ·simp only [Act.put,List.setIfInBounds_toArray,List.set_cons_zero,List.set_cons_succ,i64_w,i32_w]
  rfl
 refine take_ (i:=13) (N:=some 24) (v:=?_) (a':=?_) #[true,true,true,true,true,true,true,true,true,true,true,true,true,true,false,true,true,true,false,false,false,true,true,true,false,false,false,true,true,true,false,false,true,true,true,false,false,false,false,false,false,false] rfl rfl (by kernel_rfl) (fun _ _ _ h=>h) (Or.inl ⟨by rfl,?_⟩) hHeld ?_ ?_
 rotate_left
 ·rintro w' ⟨s0,s1,s2,s3,s4,s5,s6⟩
  go_simp
  with_reducible rfl
 rotate_left
 ·simp only [Act.put,List.setIfInBounds_toArray,List.set_cons_zero,List.set_cons_succ,i64_w,i32_w]
  rfl
 refine take_ (i:=18) (N:=some 29) (v:=?_) (a':=?_) #[true,true,true,true,true,true,true,true,true,true,true,true,true,true,false,true,true,true,true,false,false,true,true,true,false,false,false,true,true,true,false,false,true,true,true,false,false,false,false,false,false,false] rfl rfl (by kernel_rfl) (fun _ _ _ h=>h) (Or.inl ⟨by rfl,?_⟩) hHeld ?_ ?_
 rotate_left
 ·rintro w' ⟨s0,s1,s2,s3,s4,s5,s6⟩
  go_simp
  with_reducible rfl
 rotate_left
 ·simp only [Act.put,List.setIfInBounds_toArray,List.set_cons_zero,List.set_cons_succ,i64_w,i32_w]
  rfl
 refine take_ (i:=24) (N:=some 35) (v:=?_) (a':=?_) #[true,true,true,true,true,true,true,true,true,true,true,true,true,true,false,true,true,true,true,false,false,true,true,true,true,false,false,true,true,true,false,false,true,true,true,false,false,false,false,false,false,false] rfl rfl (by kernel_rfl) (fun _ _ _ h=>h) (Or.inl ⟨by rfl,?_⟩) hHeld ?_ ?_
 rotate_left
 ·rintro w' ⟨s0,s1,s2,s3,s4,s5,s6⟩
  go_simp
  with_reducible rfl
 rotate_left
 ·simp only [Act.put,List.setIfInBounds_toArray,List.set_cons_zero,List.set_cons_succ,i64_w,i32_w]
  rfl
 refine take_ (i:=30) (N:=some 41) (v:=?_) (a':=?_) #[true,true,true,true,true,true,true,true,true,true,true,true,true,true,false,true,true,true,true,false,false,true,true,true,true,false,false,true,true,true,true,false,true,true,true,false,false,false,false,false,false,false] rfl rfl (by kernel_rfl) (fun _ _ _ h=>h) (Or.inl ⟨by rfl,?_⟩) hHeld ?_ ?_
 rotate_left
 ·rintro w' ⟨s0,s1,s2,s3,s4,s5,s6⟩
  go_simp
  with_reducible rfl
 rotate_left
 ·simp only [Act.put,List.setIfInBounds_toArray,List.set_cons_zero,List.set_cons_succ,i64_w,i32_w]
  rfl
 refine take_ (i:=35) (N:=some 46) (v:=?_) (a':=?_) #[true,true,true,true,true,true,true,true,true,true,true,true,true,true,false,true,true,true,true,false,false,true,true,true,true,false,false,true,true,true,true,false,true,true,true,true,false,false,false,false,false,false] rfl rfl (by kernel_rfl) (fun _ _ _ h=>h) (Or.inl ⟨by rfl,?_⟩) hHeld ?_ ?_
 rotate_left
 ·rintro w' ⟨s0,s1,s2,s3,s4,s5,s6⟩
  go_simp
  with_reducible rfl
 rotate_left
 ·simp only [Act.put,List.setIfInBounds_toArray,List.set_cons_zero,List.set_cons_succ,i64_w,i32_w]
  rfl
 refine join_ (σ:=Nat × Option Addr × Nat × Nat) 7 #[true,true,true,true,true,true,true,true,true,true,true,true,true,true,true,true,true,true,true,true,true,true,true,true,true,true,true,true,true,true,true,false,true,true,true,true,false,false,false,false,false,false] (fun s=>[(25,.int .i64 S.L.length),(30,.int .i64 S.t.length),(31,.slice (some ⟨s.1,0,none⟩) 0 0),(36,.slice s.2.1 rs0.length s.2.2.1)  ,(37,.slice (some ⟨s.2.2.2,0,none⟩) 0 0)]) (fun s w'=>MkJ τ w o rs0 w' s.2.1 s.2.2.1 s.2.2.2) ?_ ?_
 rotate_left
 ·intro hCont
  refine three_ (i:=14) (j:=20) (k:=26) (Ni:=some 25) (Nj:=some 31) (Nk:=some 37) #[true,true,true,true,true,true,true,true,true,true,true,true,true,true,true,true,true,true,true,false,false,true,true,true,true,false,false,true,true,true,true,false,true,true,true,true,false,false,false,false,false,false] #[true,true,true,true,true,true,true,true,true,true,true,true,true,true,false,true,true,true,true,false,true,true,true,true,true,false,false,true,true,true,true,false,true,true,true,true,false,false,false,false,false,false] #[true,true,true,true,true,true,true,true,true,true,true,true,true,true,false,true,true,true,true,false,false,true,true,true,true,false,true,true,true,true,true,false,true,true,true,true,false,false,false,false,false,false] rfl rfl rfl rfl rfl rfl (by kernel_rfl) (by decide) (by decide) (by decide) (fun K hK=>?_) (fun K hK=>?_) (fun K hK=>?_)
  ·skip
   refine goes_ Tryz.func41 (by kernel_rfl) rfl #[.pointer (some ⟨fg,0,none⟩)] (by rfl) rfl rfl (by simp only [List.map_toArray,List.map_cons,List.map_nil];rfl) ?_
   with_reducible refine (forest_len (b:=b+13) (LIM.out _ _ HF0.out).forest hL10).mono ?_
   rintro e w1 ⟨rfl,rfl⟩
   refine ⟨_,rfl,?_⟩
   refine hK.out _ _ (LC.out _ _ HF0.out) (fun hHeld=>?_)
   clear hK K
   refine norm_ (a':=?_) ?_ ?_
   rotate_left
   ·show Act.put _ (some 25) _=_
    simp only [Act.put,List.setIfInBounds_toArray,List.set_cons_zero,List.set_cons_succ,i64_w,i32_w]
    rfl
   refine three_ (i:=19) (j:=20) (k:=26) (Ni:=some 30) (Nj:=some 31) (Nk:=some 37) #[true,true,true,true,true,true,true,true,true,true,true,true,true,true,true,true,true,true,true,true,false,true,true,true,true,false,false,true,true,true,true,false,true,true,true,true,false,false,false,false,false,false] #[true,true,true,true,true,true,true,true,true,true,true,true,true,true,true,true,true,true,true,false,true,true,true,true,true,false,false,true,true,true,true,false,true,true,true,true,false,false,false,false,false,false] #[true,true,true,true,true,true,true,true,true,true,true,true,true,true,true,true,true,true,true,false,false,true,true,true,true,false,true,true,true,true,true,false,true,true,true,true,false,false,false,false,false,false] rfl rfl rfl rfl rfl rfl (by kernel_rfl) (by decide) (by decide) (by decide) (fun K hK=>?_) (fun K hK=>?_) (fun K hK=>?_)
   ·skip
    refine goes_ Tryz.func42 (by kernel_rfl) rfl #[.pointer (some ⟨sg,0,none⟩)] (by rfl) rfl rfl (by simp only [List.map_toArray,List.map_cons,List.map_nil];rfl) ?_
    with_reducible refine (mark_calls (LIM.out _ _ HF0.out).sets.uf).mono ?_
    rintro e w1 ⟨rfl,rfl⟩
    refine ⟨_,rfl,?_⟩
    refine hK.out _ _ (LC.out _ _ HF0.out) (fun hHeld=>?_)
    clear hK K
    refine norm_ (a':=?_) ?_ ?_
    rotate_left
    ·show Act.put _ (some 30) _=_
     simp only [Act.put,List.setIfInBounds_toArray,List.set_cons_zero,List.set_cons_succ,i64_w,i32_w]
     rfl
    refine two_ (i:=20) (j:=26) (Ni:=some 31) (Nj:=some 37) #[true,true,true,true,true,true,true,true,true,true,true,true,true,true,true,true,true,true,true,true,true,true,true,true,true,false,false,true,true,true,true,false,true,true,true,true,false,false,false,false,false,false] #[true,true,true,true,true,true,true,true,true,true,true,true,true,true,true,true,true,true,true,true,false,true,true,true,true,false,true,true,true,true,true,false,true,true,true,true,false,false,false,false,false,false] rfl rfl rfl rfl (by kernel_rfl) (by decide) (by decide) (fun K hK=>?_) (fun K hK=>?_)
    ·skip
     refine value_ (w1:=?_) (v:=?_) (by rfl) rfl ?_ ?_
     rotate_left 2
     ·go_simp
      constructor
      ·rfl
      ·rfl
     have HF1:Hid (Fr (MkM τ) w o (w.alloc (.cells #[] 56)).drew (o0.from_ w.drew.heap.size τ)):=Lib.hid ((HF0.out.renew τ (.inr (.inl rfl))).alloc (.cells #[] 56))
     have KP1:Hid (Kp (fun _=>False) w.drew o0 (w.alloc (.cells #[] 56)).drew (o0.from_ w.drew.heap.size τ)):=Lib.hid (((Kp.refl (fun _=>False) w.drew o0).renew τ).alloc (.cells #[] 56))
     have E20_1:Hid (Row kNV 56 (w.alloc (.cells #[] 56)).drew (o0.from_ w.drew.heap.size τ) τ (.slice (some ⟨w.heap.size,0,none⟩) 0 0) []):=Lib.hid (Row.empty2 kNV 56 w.drew o0 τ (n:=w.heap.size) (by simp))
     clear KP1
     generalize o0.from_ w.drew.heap.size τ=o1 at *
     refine hK.out _ _ (LC.out _ _ HF1.out) (fun hHeld=>?_)
     clear hK K
     refine norm_ (a':=?_) ?_ ?_
     rotate_left
     ·show Act.put _ (some 31) _=_
      simp only [Act.put,List.setIfInBounds_toArray,List.set_cons_zero,List.set_cons_succ,i64_w,i32_w]
      rfl
     refine two_ (i:=25) (j:=26) (Ni:=some 36) (Nj:=some 37) #[true,true,true,true,true,true,true,true,true,true,true,true,true,true,true,true,true,true,true,true,true,true,true,true,true,true,false,true,true,true,true,false,true,true,true,true,false,false,false,false,false,false] #[true,true,true,true,true,true,true,true,true,true,true,true,true,true,true,true,true,true,true,true,true,true,true,true,true,false,true,true,true,true,true,false,true,true,true,true,false,false,false,false,false,false] rfl rfl rfl rfl (by kernel_rfl) (by decide) (by decide) (fun K hK=>?_) (fun K hK=>?_)
     ·skip
      refine Kd.R_append_rows_step kNV (w0:=(w.alloc (.cells #[] 56)).drew) (W:=(w.alloc (.cells #[] 56)).drew) 0 (by rfl) (.tmp 31) (.tmp 35) 49 56 (.agg #[.int .i64 0,.int .i64 0,.int .u64 0,.string ⟨#[]⟩,.slice none 0 0]) 64 (by rfl) Tryz.underlying49 inf56 rfl (by decide) (by decide) (.slice (some ⟨w.heap.size,0,none⟩) 0 0) [] rs0 Ak rs0.length ck (fun q=>o1.from_ (w.alloc (.cells #[] 56)).drew.heap.size τ q=τ) (fun _=>False) (by rfl) (by rfl) (E20_1.out.renew τ) (RC.out _ _ HF1.out) (fun _ _ h=>h) (fun _ h=>h.elim) (fun q hq=>Own.from_ge hq) (Below.refl _ _) (Nat.zero_le _) (by simp;omega) ?_
      intro v25 w25 h25 _ hg25 _
      obtain ⟨A25,c25,hv25⟩:=Kd.R_slice h25
      subst hv25
      simp only [List.nil_append]at h25 ⊢
      have HF2:=Lib.hid ((HF1.out.renew τ (.inr (.inl rfl))).grown hg25 (fun q e=>.inl (by have hk2:=(Kd.R_bound E20_1.out).1 q e;rw [Own.from_lt hk2.2.2.1,hk2.1];unfold MkM;omega)))
      have KP2:=Lib.hid (((Kp.refl (·=τ) (w.alloc (.cells #[] 56)).drew o1).renew τ).grown hg25 (fun q e=>.inl (by have hk2:=(Kd.R_bound E20_1.out).1 q e;exact (Own.from_lt hk2.2.2.1).trans hk2.1)))
      have E25_2:Hid (Row kNV 56 w25 (o1.from_ (w.alloc (.cells #[] 56)).drew.heap.size τ) τ (.slice A25 rs0.length c25) rs0):=h25
      clear KP2 h25 hg25
      generalize o1.from_ (w.alloc (.cells #[] 56)).drew.heap.size τ=o2 at *
      refine hK.out _ _ (LC.out _ _ HF2.out) (fun hHeld=>?_)
      clear hK K
      refine norm_ (a':=?_) ?_ ?_
      rotate_left
      ·show Act.put _ (some 36) _=_
       simp only [Act.put,List.setIfInBounds_toArray,List.set_cons_zero,List.set_cons_succ,i64_w,i32_w]
       rfl
      refine one_ (i:=26) (N:=some 37) #[true,true,true,true,true,true,true,true,true,true,true,true,true,true,true,true,true,true,true,true,true,true,true,true,true,true,true,true,true,true,true,false,true,true,true,true,false,false,false,false,false,false] rfl rfl (by kernel_rfl) (by decide) (fun K hK=>?_)
      refine value_ (w1:=?_) (v:=?_) (by rfl) rfl ?_ ?_
      rotate_left 2
      ·go_simp
       constructor
       ·rfl
       ·rfl
      have HF3:Hid (Fr (MkM τ) w o (w25.alloc (.cells #[] 3)) (o2.from_ w25.heap.size (τ+1))):=Lib.hid ((HF2.out.renew (τ+1) (.inr (.inr rfl))).alloc (.cells #[] 3))
      have KP3:Hid (Kp (fun _=>False) w25 o2 (w25.alloc (.cells #[] 3)) (o2.from_ w25.heap.size (τ+1))):=Lib.hid (((Kp.refl (fun _=>False) w25 o2).renew (τ+1)).alloc (.cells #[] 3))
      have E26_3:Hid (Row (Kd.int .i64) 3 (w25.alloc (.cells #[] 3)) (o2.from_ w25.heap.size (τ+1)) (τ+1) (.slice (some ⟨w25.heap.size,0,none⟩) 0 0) []):=Lib.hid (Row.empty2 (Kd.int .i64) 3 w25 o2 (τ+1) (n:=w25.heap.size) (by simp))
      have E25_3:=Lib.hid (E25_2.out.fr KP3.out (fun h=>h))
      clear KP3
      generalize o2.from_ w25.heap.size (τ+1)=o3 at *
      refine hK.out _ _ (LC.out _ _ HF3.out) (fun hHeld=>?_)
      clear hK K
      refine norm_ (a':=?_) ?_ ?_
      rotate_left
      ·show Act.put _ (some 37) _=_
       simp only [Act.put,List.setIfInBounds_toArray,List.set_cons_zero,List.set_cons_succ,i64_w,i32_w]
       rfl
      exact norm_ (by simp only [putAll,Act.put,List.setIfInBounds_toArray,List.set_cons_zero,List.set_cons_succ]) (hCont ⟨w.heap.size,A25,c25,w25.heap.size⟩ _ ⟨_,HF3.out,E25_3.out,E26_3.out⟩)
     ·skip
      refine value_ (w1:=?_) (v:=?_) (by rfl) rfl ?_ ?_
      rotate_left 2
      ·go_simp
       constructor
       ·rfl
       ·rfl
      have HF2:Hid (Fr (MkM τ) w o ((w.alloc (.cells #[] 56)).alloc (.cells #[] 3)).drew (o1.from_ (w.alloc (.cells #[] 56)).drew.heap.size (τ+1))):=Lib.hid ((HF1.out.renew (τ+1) (.inr (.inr rfl))).alloc (.cells #[] 3))
      have KP2:Hid (Kp (fun _=>False) (w.alloc (.cells #[] 56)).drew o1 ((w.alloc (.cells #[] 56)).alloc (.cells #[] 3)).drew (o1.from_ (w.alloc (.cells #[] 56)).drew.heap.size (τ+1))):=Lib.hid (((Kp.refl (fun _=>False) (w.alloc (.cells #[] 56)).drew o1).renew (τ+1)).alloc (.cells #[] 3))
      have E26_2:Hid (Row (Kd.int .i64) 3 ((w.alloc (.cells #[] 56)).alloc (.cells #[] 3)).drew (o1.from_ (w.alloc (.cells #[] 56)).drew.heap.size (τ+1)) (τ+1) (.slice (some ⟨w.heap.size+1,0,none⟩) 0 0) []):=Lib.hid (Row.empty2 (Kd.int .i64) 3 (w.alloc (.cells #[] 56)).drew o1 (τ+1) (n:=w.heap.size+1) (by simp))
      have E20_2:=Lib.hid (E20_1.out.fr KP2.out (fun h=>h))
      clear KP2
      generalize o1.from_ (w.alloc (.cells #[] 56)).drew.heap.size (τ+1)=o2 at *
      refine hK.out _ _ (LC.out _ _ HF2.out) (fun hHeld=>?_)
      clear hK K
      refine norm_ (a':=?_) ?_ ?_
      rotate_left
      ·show Act.put _ (some 37) _=_
       simp only [Act.put,List.setIfInBounds_toArray,List.set_cons_zero,List.set_cons_succ,i64_w,i32_w]
       rfl
      refine one_ (i:=25) (N:=some 36) #[true,true,true,true,true,true,true,true,true,true,true,true,true,true,true,true,true,true,true,true,true,true,true,true,true,true,true,true,true,true,true,false,true,true,true,true,false,false,false,false,false,false] rfl rfl (by kernel_rfl) (by decide) (fun K hK=>?_)
      refine Kd.R_append_rows_step kNV (w0:=((w.alloc (.cells #[] 56)).alloc (.cells #[] 3)).drew) (W:=((w.alloc (.cells #[] 56)).alloc (.cells #[] 3)).drew) 0 (by rfl) (.tmp 31) (.tmp 35) 49 56 (.agg #[.int .i64 0,.int .i64 0,.int .u64 0,.string ⟨#[]⟩,.slice none 0 0]) 64 (by rfl) Tryz.underlying49 inf56 rfl (by decide) (by decide) (.slice (some ⟨w.heap.size,0,none⟩) 0 0) [] rs0 Ak rs0.length ck (fun q=>o2.from_ ((w.alloc (.cells #[] 56)).alloc (.cells #[] 3)).drew.heap.size τ q=τ) (fun _=>False) (by rfl) (by rfl) (E20_2.out.renew τ) (RC.out _ _ HF2.out) (fun _ _ h=>h) (fun _ h=>h.elim) (fun q hq=>Own.from_ge hq) (Below.refl _ _) (Nat.zero_le _) (by simp;omega) ?_
      intro v25 w25 h25 _ hg25 _
      obtain ⟨A25,c25,hv25⟩:=Kd.R_slice h25
      subst hv25
      simp only [List.nil_append]at h25 ⊢
      have HF3:=Lib.hid ((HF2.out.renew τ (.inr (.inl rfl))).grown hg25 (fun q e=>.inl (by have hk2:=(Kd.R_bound E20_2.out).1 q e;rw [Own.from_lt hk2.2.2.1,hk2.1];unfold MkM;omega)))
      have KP3:=Lib.hid (((Kp.refl (·=τ) ((w.alloc (.cells #[] 56)).alloc (.cells #[] 3)).drew o2).renew τ).grown hg25 (fun q e=>.inl (by have hk2:=(Kd.R_bound E20_2.out).1 q e;exact (Own.from_lt hk2.2.2.1).trans hk2.1)))
      have E25_3:Hid (Row kNV 56 w25 (o2.from_ ((w.alloc (.cells #[] 56)).alloc (.cells #[] 3)).drew.heap.size τ) τ (.slice A25 rs0.length c25) rs0):=h25
      have E26_3:=Lib.hid (E26_2.out.fr KP3.out (by omega))
      clear KP3 h25 hg25
      generalize o2.from_ ((w.alloc (.cells #[] 56)).alloc (.cells #[] 3)).drew.heap.size τ=o3 at *
      refine hK.out _ _ (LC.out _ _ HF3.out) (fun hHeld=>?_)
      clear hK K
      refine norm_ (a':=?_) ?_ ?_
      rotate_left
      ·show Act.put _ (some 36) _=_
       simp only [Act.put,List.setIfInBounds_toArray,List.set_cons_zero,List.set_cons_succ,i64_w,i32_w]
       rfl
      exact norm_ (by simp only [putAll,Act.put,List.setIfInBounds_toArray,List.set_cons_zero,List.set_cons_succ]) (hCont ⟨w.heap.size,A25,c25,w.heap.size+1⟩ _ ⟨_,HF3.out,E25_3.out,E26_3.out⟩)
    ·skip
     refine value_ (w1:=?_) (v:=?_) (by rfl) rfl ?_ ?_
     rotate_left 2
     ·go_simp
      constructor
      ·rfl
      ·rfl
     have HF1:Hid (Fr (MkM τ) w o (w.alloc (.cells #[] 3)).drew (o0.from_ w.drew.heap.size (τ+1))):=Lib.hid ((HF0.out.renew (τ+1) (.inr (.inr rfl))).alloc (.cells #[] 3))
     have KP1:Hid (Kp (fun _=>False) w.drew o0 (w.alloc (.cells #[] 3)).drew (o0.from_ w.drew.heap.size (τ+1))):=Lib.hid (((Kp.refl (fun _=>False) w.drew o0).renew (τ+1)).alloc (.cells #[] 3))
     have E26_1:Hid (Row (Kd.int .i64) 3 (w.alloc (.cells #[] 3)).drew (o0.from_ w.drew.heap.size (τ+1)) (τ+1) (.slice (some ⟨w.heap.size,0,none⟩) 0 0) []):=Lib.hid (Row.empty2 (Kd.int .i64) 3 w.drew o0 (τ+1) (n:=w.heap.size) (by simp))
     clear KP1
     generalize o0.from_ w.drew.heap.size (τ+1)=o1 at *
     refine hK.out _ _ (LC.out _ _ HF1.out) (fun hHeld=>?_)
     clear hK K
     refine norm_ (a':=?_) ?_ ?_
     rotate_left
     ·show Act.put _ (some 37) _=_
      simp only [Act.put,List.setIfInBounds_toArray,List.set_cons_zero,List.set_cons_succ,i64_w,i32_w]
      rfl
     refine one_ (i:=20) (N:=some 31) #[true,true,true,true,true,true,true,true,true,true,true,true,true,true,true,true,true,true,true,true,true,true,true,true,true,false,true,true,true,true,true,false,true,true,true,true,false,false,false,false,false,false] rfl rfl (by kernel_rfl) (by decide) (fun K hK=>?_)
     refine value_ (w1:=?_) (v:=?_) (by rfl) rfl ?_ ?_
     rotate_left 2
     ·go_simp
      constructor
      ·rfl
      ·rfl
     have HF2:Hid (Fr (MkM τ) w o ((w.alloc (.cells #[] 3)).alloc (.cells #[] 56)).drew (o1.from_ (w.alloc (.cells #[] 3)).drew.heap.size τ)):=Lib.hid ((HF1.out.renew τ (.inr (.inl rfl))).alloc (.cells #[] 56))
     have KP2:Hid (Kp (fun _=>False) (w.alloc (.cells #[] 3)).drew o1 ((w.alloc (.cells #[] 3)).alloc (.cells #[] 56)).drew (o1.from_ (w.alloc (.cells #[] 3)).drew.heap.size τ)):=Lib.hid (((Kp.refl (fun _=>False) (w.alloc (.cells #[] 3)).drew o1).renew τ).alloc (.cells #[] 56))
     have E20_2:Hid (Row kNV 56 ((w.alloc (.cells #[] 3)).alloc (.cells #[] 56)).drew (o1.from_ (w.alloc (.cells #[] 3)).drew.heap.size τ) τ (.slice (some ⟨w.heap.size+1,0,none⟩) 0 0) []):=Lib.hid (Row.empty2 kNV 56 (w.alloc (.cells #[] 3)).drew o1 τ (n:=w.heap.size+1) (by simp))
     have E26_2:=Lib.hid (E26_1.out.fr KP2.out (fun h=>h))
     clear KP2
     generalize o1.from_ (w.alloc (.cells #[] 3)).drew.heap.size τ=o2 at *
     refine hK.out _ _ (LC.out _ _ HF2.out) (fun hHeld=>?_)
     clear hK K
     refine norm_ (a':=?_) ?_ ?_
     rotate_left
     ·show Act.put _ (some 31) _=_
      simp only [Act.put,List.setIfInBounds_toArray,List.set_cons_zero,List.set_cons_succ,i64_w,i32_w]
      rfl
     refine one_ (i:=25) (N:=some 36) #[true,true,true,true,true,true,true,true,true,true,true,true,true,true,true,true,true,true,true,true,true,true,true,true,true,true,true,true,true,true,true,false,true,true,true,true,false,false,false,false,false,false] rfl rfl (by kernel_rfl) (by decide) (fun K hK=>?_)
     refine Kd.R_append_rows_step kNV (w0:=((w.alloc (.cells #[] 3)).alloc (.cells #[] 56)).drew) (W:=((w.alloc (.cells #[] 3)).alloc (.cells #[] 56)).drew) 0 (by rfl) (.tmp 31) (.tmp 35) 49 56 (.agg #[.int .i64 0,.int .i64 0,.int .u64 0,.string ⟨#[]⟩,.slice none 0 0]) 64 (by rfl) Tryz.underlying49 inf56 rfl (by decide) (by decide) (.slice (some ⟨w.heap.size+1,0,none⟩) 0 0) [] rs0 Ak rs0.length ck (fun q=>o2.from_ ((w.alloc (.cells #[] 3)).alloc (.cells #[] 56)).drew.heap.size τ q=τ) (fun _=>False) (by rfl) (by rfl) (E20_2.out.renew τ) (RC.out _ _ HF2.out) (fun _ _ h=>h) (fun _ h=>h.elim) (fun q hq=>Own.from_ge hq) (Below.refl _ _) (Nat.zero_le _) (by simp;omega) ?_
     intro v25 w25 h25 _ hg25 _
     obtain ⟨A25,c25,hv25⟩:=Kd.R_slice h25
     subst hv25
     simp only [List.nil_append]at h25 ⊢
     have HF3:=Lib.hid ((HF2.out.renew τ (.inr (.inl rfl))).grown hg25 (fun q e=>.inl (by have hk2:=(Kd.R_bound E20_2.out).1 q e;rw [Own.from_lt hk2.2.2.1,hk2.1];unfold MkM;omega)))
     have KP3:=Lib.hid (((Kp.refl (·=τ) ((w.alloc (.cells #[] 3)).alloc (.cells #[] 56)).drew o2).renew τ).grown hg25 (fun q e=>.inl (by have hk2:=(Kd.R_bound E20_2.out).1 q e;exact (Own.from_lt hk2.2.2.1).trans hk2.1)))
     have E25_3:Hid (Row kNV 56 w25 (o2.from_ ((w.alloc (.cells #[] 3)).alloc (.cells #[] 56)).drew.heap.size τ) τ (.slice A25 rs0.length c25) rs0):=h25
     have E26_3:=Lib.hid (E26_2.out.fr KP3.out (by omega))
     clear KP3 h25 hg25
     generalize o2.from_ ((w.alloc (.cells #[] 3)).alloc (.cells #[] 56)).drew.heap.size τ=o3 at *
     refine hK.out _ _ (LC.out _ _ HF3.out) (fun hHeld=>?_)
     clear hK K
     refine norm_ (a':=?_) ?_ ?_
     rotate_left
     ·show Act.put _ (some 36) _=_
      simp only [Act.put,List.setIfInBounds_toArray,List.set_cons_zero,List.set_cons_succ,i64_w,i32_w]
      rfl
     exact norm_ (by simp only [putAll,Act.put,List.setIfInBounds_toArray,List.set_cons_zero,List.set_cons_succ]) (hCont ⟨w.heap.size+1,A25,c25,w.heap.size⟩ _ ⟨_,HF3.out,E25_3.out,E26_3.out⟩)
   ·skip
    refine value_ (w1:=?_) (v:=?_) (by rfl) rfl ?_ ?_
    rotate_left 2
    ·go_simp
     constructor
     ·rfl
     ·rfl
    have HF1:Hid (Fr (MkM τ) w o (w.alloc (.cells #[] 56)).drew (o0.from_ w.drew.heap.size τ)):=Lib.hid ((HF0.out.renew τ (.inr (.inl rfl))).alloc (.cells #[] 56))
    have KP1:Hid (Kp (fun _=>False) w.drew o0 (w.alloc (.cells #[] 56)).drew (o0.from_ w.drew.heap.size τ)):=Lib.hid (((Kp.refl (fun _=>False) w.drew o0).renew τ).alloc (.cells #[] 56))
    have E20_1:Hid (Row kNV 56 (w.alloc (.cells #[] 56)).drew (o0.from_ w.drew.heap.size τ) τ (.slice (some ⟨w.heap.size,0,none⟩) 0 0) []):=Lib.hid (Row.empty2 kNV 56 w.drew o0 τ (n:=w.heap.size) (by simp))
    clear KP1
    generalize o0.from_ w.drew.heap.size τ=o1 at *
    refine hK.out _ _ (LC.out _ _ HF1.out) (fun hHeld=>?_)
    clear hK K
    refine norm_ (a':=?_) ?_ ?_
    rotate_left
    ·show Act.put _ (some 31) _=_
     simp only [Act.put,List.setIfInBounds_toArray,List.set_cons_zero,List.set_cons_succ,i64_w,i32_w]
     rfl
    refine two_ (i:=19) (j:=26) (Ni:=some 30) (Nj:=some 37) #[true,true,true,true,true,true,true,true,true,true,true,true,true,true,true,true,true,true,true,true,true,true,true,true,true,false,false,true,true,true,true,false,true,true,true,true,false,false,false,false,false,false] #[true,true,true,true,true,true,true,true,true,true,true,true,true,true,true,true,true,true,true,false,true,true,true,true,true,false,true,true,true,true,true,false,true,true,true,true,false,false,false,false,false,false] rfl rfl rfl rfl (by kernel_rfl) (by decide) (by decide) (fun K hK=>?_) (fun K hK=>?_)
    ·skip
     refine goes_ Tryz.func42 (by kernel_rfl) rfl #[.pointer (some ⟨sg,0,none⟩)] (by rfl) rfl rfl (by simp only [List.map_toArray,List.map_cons,List.map_nil];rfl) ?_
     with_reducible refine (mark_calls (LIM.out _ _ HF1.out).sets.uf).mono ?_
     rintro e w1 ⟨rfl,rfl⟩
     refine ⟨_,rfl,?_⟩
     refine hK.out _ _ (LC.out _ _ HF1.out) (fun hHeld=>?_)
     clear hK K
     refine norm_ (a':=?_) ?_ ?_
     rotate_left
     ·show Act.put _ (some 30) _=_
      simp only [Act.put,List.setIfInBounds_toArray,List.set_cons_zero,List.set_cons_succ,i64_w,i32_w]
      rfl
     refine two_ (i:=25) (j:=26) (Ni:=some 36) (Nj:=some 37) #[true,true,true,true,true,true,true,true,true,true,true,true,true,true,true,true,true,true,true,true,true,true,true,true,true,true,false,true,true,true,true,false,true,true,true,true,false,false,false,false,false,false] #[true,true,true,true,true,true,true,true,true,true,true,true,true,true,true,true,true,true,true,true,true,true,true,true,true,false,true,true,true,true,true,false,true,true,true,true,false,false,false,false,false,false] rfl rfl rfl rfl (by kernel_rfl) (by decide) (by decide) (fun K hK=>?_) (fun K hK=>?_)
     ·skip
      refine Kd.R_append_rows_step kNV (w0:=(w.alloc (.cells #[] 56)).drew) (W:=(w.alloc (.cells #[] 56)).drew) 0 (by rfl) (.tmp 31) (.tmp 35) 49 56 (.agg #[.int .i64 0,.int .i64 0,.int .u64 0,.string ⟨#[]⟩,.slice none 0 0]) 64 (by rfl) Tryz.underlying49 inf56 rfl (by decide) (by decide) (.slice (some ⟨w.heap.size,0,none⟩) 0 0) [] rs0 Ak rs0.length ck (fun q=>o1.from_ (w.alloc (.cells #[] 56)).drew.heap.size τ q=τ) (fun _=>False) (by rfl) (by rfl) (E20_1.out.renew τ) (RC.out _ _ HF1.out) (fun _ _ h=>h) (fun _ h=>h.elim) (fun q hq=>Own.from_ge hq) (Below.refl _ _) (Nat.zero_le _) (by simp;omega) ?_
      intro v25 w25 h25 _ hg25 _
      obtain ⟨A25,c25,hv25⟩:=Kd.R_slice h25
      subst hv25
      simp only [List.nil_append]at h25 ⊢
      have HF2:=Lib.hid ((HF1.out.renew τ (.inr (.inl rfl))).grown hg25 (fun q e=>.inl (by have hk2:=(Kd.R_bound E20_1.out).1 q e;rw [Own.from_lt hk2.2.2.1,hk2.1];unfold MkM;omega)))
      have KP2:=Lib.hid (((Kp.refl (·=τ) (w.alloc (.cells #[] 56)).drew o1).renew τ).grown hg25 (fun q e=>.inl (by have hk2:=(Kd.R_bound E20_1.out).1 q e;exact (Own.from_lt hk2.2.2.1).trans hk2.1)))
      have E25_2:Hid (Row kNV 56 w25 (o1.from_ (w.alloc (.cells #[] 56)).drew.heap.size τ) τ (.slice A25 rs0.length c25) rs0):=h25
      clear KP2 h25 hg25
      generalize o1.from_ (w.alloc (.cells #[] 56)).drew.heap.size τ=o2 at *
      refine hK.out _ _ (LC.out _ _ HF2.out) (fun hHeld=>?_)
      clear hK K
      refine norm_ (a':=?_) ?_ ?_
      rotate_left
      ·show Act.put _ (some 36) _=_
       simp only [Act.put,List.setIfInBounds_toArray,List.set_cons_zero,List.set_cons_succ,i64_w,i32_w]
       rfl
      refine one_ (i:=26) (N:=some 37) #[true,true,true,true,true,true,true,true,true,true,true,true,true,true,true,true,true,true,true,true,true,true,true,true,true,true,true,true,true,true,true,false,true,true,true,true,false,false,false,false,false,false] rfl rfl (by kernel_rfl) (by decide) (fun K hK=>?_)
      refine value_ (w1:=?_) (v:=?_) (by rfl) rfl ?_ ?_
      rotate_left 2
      ·go_simp
       constructor
       ·rfl
       ·rfl
      have HF3:Hid (Fr (MkM τ) w o (w25.alloc (.cells #[] 3)) (o2.from_ w25.heap.size (τ+1))):=Lib.hid ((HF2.out.renew (τ+1) (.inr (.inr rfl))).alloc (.cells #[] 3))
      have KP3:Hid (Kp (fun _=>False) w25 o2 (w25.alloc (.cells #[] 3)) (o2.from_ w25.heap.size (τ+1))):=Lib.hid (((Kp.refl (fun _=>False) w25 o2).renew (τ+1)).alloc (.cells #[] 3))
      have E26_3:Hid (Row (Kd.int .i64) 3 (w25.alloc (.cells #[] 3)) (o2.from_ w25.heap.size (τ+1)) (τ+1) (.slice (some ⟨w25.heap.size,0,none⟩) 0 0) []):=Lib.hid (Row.empty2 (Kd.int .i64) 3 w25 o2 (τ+1) (n:=w25.heap.size) (by simp))
      have E25_3:=Lib.hid (E25_2.out.fr KP3.out (fun h=>h))
      clear KP3
      generalize o2.from_ w25.heap.size (τ+1)=o3 at *
      refine hK.out _ _ (LC.out _ _ HF3.out) (fun hHeld=>?_)
      clear hK K
      refine norm_ (a':=?_) ?_ ?_
      rotate_left
      ·show Act.put _ (some 37) _=_
       simp only [Act.put,List.setIfInBounds_toArray,List.set_cons_zero,List.set_cons_succ,i64_w,i32_w]
       rfl
      exact norm_ (by simp only [putAll,Act.put,List.setIfInBounds_toArray,List.set_cons_zero,List.set_cons_succ]) (hCont ⟨w.heap.size,A25,c25,w25.heap.size⟩ _ ⟨_,HF3.out,E25_3.out,E26_3.out⟩)
     ·skip
      refine value_ (w1:=?_) (v:=?_) (by rfl) rfl ?_ ?_
      rotate_left 2
      ·go_simp
       constructor
       ·rfl
       ·rfl
      have HF2:Hid (Fr (MkM τ) w o ((w.alloc (.cells #[] 56)).alloc (.cells #[] 3)).drew (o1.from_ (w.alloc (.cells #[] 56)).drew.heap.size (τ+1))):=Lib.hid ((HF1.out.renew (τ+1) (.inr (.inr rfl))).alloc (.cells #[] 3))
      have KP2:Hid (Kp (fun _=>False) (w.alloc (.cells #[] 56)).drew o1 ((w.alloc (.cells #[] 56)).alloc (.cells #[] 3)).drew (o1.from_ (w.alloc (.cells #[] 56)).drew.heap.size (τ+1))):=Lib.hid (((Kp.refl (fun _=>False) (w.alloc (.cells #[] 56)).drew o1).renew (τ+1)).alloc (.cells #[] 3))
      have E26_2:Hid (Row (Kd.int .i64) 3 ((w.alloc (.cells #[] 56)).alloc (.cells #[] 3)).drew (o1.from_ (w.alloc (.cells #[] 56)).drew.heap.size (τ+1)) (τ+1) (.slice (some ⟨w.heap.size+1,0,none⟩) 0 0) []):=Lib.hid (Row.empty2 (Kd.int .i64) 3 (w.alloc (.cells #[] 56)).drew o1 (τ+1) (n:=w.heap.size+1) (by simp))
      have E20_2:=Lib.hid (E20_1.out.fr KP2.out (fun h=>h))
      clear KP2
      generalize o1.from_ (w.alloc (.cells #[] 56)).drew.heap.size (τ+1)=o2 at *
      refine hK.out _ _ (LC.out _ _ HF2.out) (fun hHeld=>?_)
      clear hK K
      refine norm_ (a':=?_) ?_ ?_
      rotate_left
      ·show Act.put _ (some 37) _=_
       simp only [Act.put,List.setIfInBounds_toArray,List.set_cons_zero,List.set_cons_succ,i64_w,i32_w]
       rfl
      refine one_ (i:=25) (N:=some 36) #[true,true,true,true,true,true,true,true,true,true,true,true,true,true,true,true,true,true,true,true,true,true,true,true,true,true,true,true,true,true,true,false,true,true,true,true,false,false,false,false,false,false] rfl rfl (by kernel_rfl) (by decide) (fun K hK=>?_)
      refine Kd.R_append_rows_step kNV (w0:=((w.alloc (.cells #[] 56)).alloc (.cells #[] 3)).drew) (W:=((w.alloc (.cells #[] 56)).alloc (.cells #[] 3)).drew) 0 (by rfl) (.tmp 31) (.tmp 35) 49 56 (.agg #[.int .i64 0,.int .i64 0,.int .u64 0,.string ⟨#[]⟩,.slice none 0 0]) 64 (by rfl) Tryz.underlying49 inf56 rfl (by decide) (by decide) (.slice (some ⟨w.heap.size,0,none⟩) 0 0) [] rs0 Ak rs0.length ck (fun q=>o2.from_ ((w.alloc (.cells #[] 56)).alloc (.cells #[] 3)).drew.heap.size τ q=τ) (fun _=>False) (by rfl) (by rfl) (E20_2.out.renew τ) (RC.out _ _ HF2.out) (fun _ _ h=>h) (fun _ h=>h.elim) (fun q hq=>Own.from_ge hq) (Below.refl _ _) (Nat.zero_le _) (by simp;omega) ?_
      intro v25 w25 h25 _ hg25 _
      obtain ⟨A25,c25,hv25⟩:=Kd.R_slice h25
      subst hv25
      simp only [List.nil_append]at h25 ⊢
      have HF3:=Lib.hid ((HF2.out.renew τ (.inr (.inl rfl))).grown hg25 (fun q e=>.inl (by have hk2:=(Kd.R_bound E20_2.out).1 q e;rw [Own.from_lt hk2.2.2.1,hk2.1];unfold MkM;omega)))
      have KP3:=Lib.hid (((Kp.refl (·=τ) ((w.alloc (.cells #[] 56)).alloc (.cells #[] 3)).drew o2).renew τ).grown hg25 (fun q e=>.inl (by have hk2:=(Kd.R_bound E20_2.out).1 q e;exact (Own.from_lt hk2.2.2.1).trans hk2.1)))
      have E25_3:Hid (Row kNV 56 w25 (o2.from_ ((w.alloc (.cells #[] 56)).alloc (.cells #[] 3)).drew.heap.size τ) τ (.slice A25 rs0.length c25) rs0):=h25
      have E26_3:=Lib.hid (E26_2.out.fr KP3.out (by omega))
      clear KP3 h25 hg25
      generalize o2.from_ ((w.alloc (.cells #[] 56)).alloc (.cells #[] 3)).drew.heap.size τ=o3 at *
      refine hK.out _ _ (LC.out _ _ HF3.out) (fun hHeld=>?_)
      clear hK K
      refine norm_ (a':=?_) ?_ ?_
      rotate_left
      ·show Act.put _ (some 36) _=_
       simp only [Act.put,List.setIfInBounds_toArray,List.set_cons_zero,List.set_cons_succ,i64_w,i32_w]
       rfl
      exact norm_ (by simp only [putAll,Act.put,List.setIfInBounds_toArray,List.set_cons_zero,List.set_cons_succ]) (hCont ⟨w.heap.size,A25,c25,w.heap.size+1⟩ _ ⟨_,HF3.out,E25_3.out,E26_3.out⟩)
    ·skip
     refine value_ (w1:=?_) (v:=?_) (by rfl) rfl ?_ ?_
     rotate_left 2
     ·go_simp
      constructor
      ·rfl
      ·rfl
     have HF2:Hid (Fr (MkM τ) w o ((w.alloc (.cells #[] 56)).alloc (.cells #[] 3)).drew (o1.from_ (w.alloc (.cells #[] 56)).drew.heap.size (τ+1))):=Lib.hid ((HF1.out.renew (τ+1) (.inr (.inr rfl))).alloc (.cells #[] 3))
     have KP2:Hid (Kp (fun _=>False) (w.alloc (.cells #[] 56)).drew o1 ((w.alloc (.cells #[] 56)).alloc (.cells #[] 3)).drew (o1.from_ (w.alloc (.cells #[] 56)).drew.heap.size (τ+1))):=Lib.hid (((Kp.refl (fun _=>False) (w.alloc (.cells #[] 56)).drew o1).renew (τ+1)).alloc (.cells #[] 3))
     have E26_2:Hid (Row (Kd.int .i64) 3 ((w.alloc (.cells #[] 56)).alloc (.cells #[] 3)).drew (o1.from_ (w.alloc (.cells #[] 56)).drew.heap.size (τ+1)) (τ+1) (.slice (some ⟨w.heap.size+1,0,none⟩) 0 0) []):=Lib.hid (Row.empty2 (Kd.int .i64) 3 (w.alloc (.cells #[] 56)).drew o1 (τ+1) (n:=w.heap.size+1) (by simp))
     have E20_2:=Lib.hid (E20_1.out.fr KP2.out (fun h=>h))
     clear KP2
     generalize o1.from_ (w.alloc (.cells #[] 56)).drew.heap.size (τ+1)=o2 at *
     refine hK.out _ _ (LC.out _ _ HF2.out) (fun hHeld=>?_)
     clear hK K
     refine norm_ (a':=?_) ?_ ?_
     rotate_left
     ·show Act.put _ (some 37) _=_
      simp only [Act.put,List.setIfInBounds_toArray,List.set_cons_zero,List.set_cons_succ,i64_w,i32_w]
      rfl
     refine one_ (i:=19) (N:=some 30) #[true,true,true,true,true,true,true,true,true,true,true,true,true,true,true,true,true,true,true,true,true,true,true,true,true,false,true,true,true,true,true,false,true,true,true,true,false,false,false,false,false,false] rfl rfl (by kernel_rfl) (by decide) (fun K hK=>?_)
     refine goes_ Tryz.func42 (by kernel_rfl) rfl #[.pointer (some ⟨sg,0,none⟩)] (by rfl) rfl rfl (by simp only [List.map_toArray,List.map_cons,List.map_nil];rfl) ?_
     with_reducible refine (mark_calls (LIM.out _ _ HF2.out).sets.uf).mono ?_
     rintro e w1 ⟨rfl,rfl⟩
     refine ⟨_,rfl,?_⟩
     refine hK.out _ _ (LC.out _ _ HF2.out) (fun hHeld=>?_)
     clear hK K
     refine norm_ (a':=?_) ?_ ?_
     rotate_left
     ·show Act.put _ (some 30) _=_
      simp only [Act.put,List.setIfInBounds_toArray,List.set_cons_zero,List.set_cons_succ,i64_w,i32_w]
      rfl
     refine one_ (i:=25) (N:=some 36) #[true,true,true,true,true,true,true,true,true,true,true,true,true,true,true,true,true,true,true,true,true,true,true,true,true,true,true,true,true,true,true,false,true,true,true,true,false,false,false,false,false,false] rfl rfl (by kernel_rfl) (by decide) (fun K hK=>?_)
     refine Kd.R_append_rows_step kNV (w0:=((w.alloc (.cells #[] 56)).alloc (.cells #[] 3)).drew) (W:=((w.alloc (.cells #[] 56)).alloc (.cells #[] 3)).drew) 0 (by rfl) (.tmp 31) (.tmp 35) 49 56 (.agg #[.int .i64 0,.int .i64 0,.int .u64 0,.string ⟨#[]⟩,.slice none 0 0]) 64 (by rfl) Tryz.underlying49 inf56 rfl (by decide) (by decide) (.slice (some ⟨w.heap.size,0,none⟩) 0 0) [] rs0 Ak rs0.length ck (fun q=>o2.from_ ((w.alloc (.cells #[] 56)).alloc (.cells #[] 3)).drew.heap.size τ q=τ) (fun _=>False) (by rfl) (by rfl) (E20_2.out.renew τ) (RC.out _ _ HF2.out) (fun _ _ h=>h) (fun _ h=>h.elim) (fun q hq=>Own.from_ge hq) (Below.refl _ _) (Nat.zero_le _) (by simp;omega) ?_
     intro v25 w25 h25 _ hg25 _
     obtain ⟨A25,c25,hv25⟩:=Kd.R_slice h25
     subst hv25
     simp only [List.nil_append]at h25 ⊢
     have HF3:=Lib.hid ((HF2.out.renew τ (.inr (.inl rfl))).grown hg25 (fun q e=>.inl (by have hk2:=(Kd.R_bound E20_2.out).1 q e;rw [Own.from_lt hk2.2.2.1,hk2.1];unfold MkM;omega)))
     have KP3:=Lib.hid (((Kp.refl (·=τ) ((w.alloc (.cells #[] 56)).alloc (.cells #[] 3)).drew o2).renew τ).grown hg25 (fun q e=>.inl (by have hk2:=(Kd.R_bound E20_2.out).1 q e;exact (Own.from_lt hk2.2.2.1).trans hk2.1)))
     have E25_3:Hid (Row kNV 56 w25 (o2.from_ ((w.alloc (.cells #[] 56)).alloc (.cells #[] 3)).drew.heap.size τ) τ (.slice A25 rs0.length c25) rs0):=h25
     have E26_3:=Lib.hid (E26_2.out.fr KP3.out (by omega))
     clear KP3 h25 hg25
     generalize o2.from_ ((w.alloc (.cells #[] 56)).alloc (.cells #[] 3)).drew.heap.size τ=o3 at *
     refine hK.out _ _ (LC.out _ _ HF3.out) (fun hHeld=>?_)
     clear hK K
     refine norm_ (a':=?_) ?_ ?_
     rotate_left
     ·show Act.put _ (some 36) _=_
      simp only [Act.put,List.setIfInBounds_toArray,List.set_cons_zero,List.set_cons_succ,i64_w,i32_w]
      rfl
     exact norm_ (by simp only [putAll,Act.put,List.setIfInBounds_toArray,List.set_cons_zero,List.set_cons_succ]) (hCont ⟨w.heap.size,A25,c25,w.heap.size+1⟩ _ ⟨_,HF3.out,E25_3.out,E26_3.out⟩)
   ·skip
    refine value_ (w1:=?_) (v:=?_) (by rfl) rfl ?_ ?_
    rotate_left 2
    ·go_simp
     constructor
     ·rfl
     ·rfl
    have HF1:Hid (Fr (MkM τ) w o (w.alloc (.cells #[] 3)).drew (o0.from_ w.drew.heap.size (τ+1))):=Lib.hid ((HF0.out.renew (τ+1) (.inr (.inr rfl))).alloc (.cells #[] 3))
    have KP1:Hid (Kp (fun _=>False) w.drew o0 (w.alloc (.cells #[] 3)).drew (o0.from_ w.drew.heap.size (τ+1))):=Lib.hid (((Kp.refl (fun _=>False) w.drew o0).renew (τ+1)).alloc (.cells #[] 3))
    have E26_1:Hid (Row (Kd.int .i64) 3 (w.alloc (.cells #[] 3)).drew (o0.from_ w.drew.heap.size (τ+1)) (τ+1) (.slice (some ⟨w.heap.size,0,none⟩) 0 0) []):=Lib.hid (Row.empty2 (Kd.int .i64) 3 w.drew o0 (τ+1) (n:=w.heap.size) (by simp))
    clear KP1
    generalize o0.from_ w.drew.heap.size (τ+1)=o1 at *
    refine hK.out _ _ (LC.out _ _ HF1.out) (fun hHeld=>?_)
    clear hK K
    refine norm_ (a':=?_) ?_ ?_
    rotate_left
    ·show Act.put _ (some 37) _=_
     simp only [Act.put,List.setIfInBounds_toArray,List.set_cons_zero,List.set_cons_succ,i64_w,i32_w]
     rfl
    refine two_ (i:=19) (j:=20) (Ni:=some 30) (Nj:=some 31) #[true,true,true,true,true,true,true,true,true,true,true,true,true,true,true,true,true,true,true,true,false,true,true,true,true,false,true,true,true,true,true,false,true,true,true,true,false,false,false,false,false,false] #[true,true,true,true,true,true,true,true,true,true,true,true,true,true,true,true,true,true,true,false,true,true,true,true,true,false,true,true,true,true,true,false,true,true,true,true,false,false,false,false,false,false] rfl rfl rfl rfl (by kernel_rfl) (by decide) (by decide) (fun K hK=>?_) (fun K hK=>?_)
    ·skip
     refine goes_ Tryz.func42 (by kernel_rfl) rfl #[.pointer (some ⟨sg,0,none⟩)] (by rfl) rfl rfl (by simp only [List.map_toArray,List.map_cons,List.map_nil];rfl) ?_
     with_reducible refine (mark_calls (LIM.out _ _ HF1.out).sets.uf).mono ?_
     rintro e w1 ⟨rfl,rfl⟩
     refine ⟨_,rfl,?_⟩
     refine hK.out _ _ (LC.out _ _ HF1.out) (fun hHeld=>?_)
     clear hK K
     refine norm_ (a':=?_) ?_ ?_
     rotate_left
     ·show Act.put _ (some 30) _=_
      simp only [Act.put,List.setIfInBounds_toArray,List.set_cons_zero,List.set_cons_succ,i64_w,i32_w]
      rfl
     refine one_ (i:=20) (N:=some 31) #[true,true,true,true,true,true,true,true,true,true,true,true,true,true,true,true,true,true,true,true,true,true,true,true,true,false,true,true,true,true,true,false,true,true,true,true,false,false,false,false,false,false] rfl rfl (by kernel_rfl) (by decide) (fun K hK=>?_)
     refine value_ (w1:=?_) (v:=?_) (by rfl) rfl ?_ ?_
     rotate_left 2
     ·go_simp
      constructor
      ·rfl
      ·rfl
     have HF2:Hid (Fr (MkM τ) w o ((w.alloc (.cells #[] 3)).alloc (.cells #[] 56)).drew (o1.from_ (w.alloc (.cells #[] 3)).drew.heap.size τ)):=Lib.hid ((HF1.out.renew τ (.inr (.inl rfl))).alloc (.cells #[] 56))
     have KP2:Hid (Kp (fun _=>False) (w.alloc (.cells #[] 3)).drew o1 ((w.alloc (.cells #[] 3)).alloc (.cells #[] 56)).drew (o1.from_ (w.alloc (.cells #[] 3)).drew.heap.size τ)):=Lib.hid (((Kp.refl (fun _=>False) (w.alloc (.cells #[] 3)).drew o1).renew τ).alloc (.cells #[] 56))
     have E20_2:Hid (Row kNV 56 ((w.alloc (.cells #[] 3)).alloc (.cells #[] 56)).drew (o1.from_ (w.alloc (.cells #[] 3)).drew.heap.size τ) τ (.slice (some ⟨w.heap.size+1,0,none⟩) 0 0) []):=Lib.hid (Row.empty2 kNV 56 (w.alloc (.cells #[] 3)).drew o1 τ (n:=w.heap.size+1) (by simp))
     have E26_2:=Lib.hid (E26_1.out.fr KP2.out (fun h=>h))
     clear KP2
     generalize o1.from_ (w.alloc (.cells #[] 3)).drew.heap.size τ=o2 at *
     refine hK.out _ _ (LC.out _ _ HF2.out) (fun hHeld=>?_)
     clear hK K
     refine norm_ (a':=?_) ?_ ?_
     rotate_left
     ·show Act.put _ (some 31) _=_
      simp only [Act.put,List.setIfInBounds_toArray,List.set_cons_zero,List.set_cons_succ,i64_w,i32_w]
      rfl
     refine one_ (i:=25) (N:=some 36) #[true,true,true,true,true,true,true,true,true,true,true,true,true,true,true,true,true,true,true,true,true,true,true,true,true,true,true,true,true,true,true,false,true,true,true,true,false,false,false,false,false,false] rfl rfl (by kernel_rfl) (by decide) (fun K hK=>?_)
     refine Kd.R_append_rows_step kNV (w0:=((w.alloc (.cells #[] 3)).alloc (.cells #[] 56)).drew) (W:=((w.alloc (.cells #[] 3)).alloc (.cells #[] 56)).drew) 0 (by rfl) (.tmp 31) (.tmp 35) 49 56 (.agg #[.int .i64 0,.int .i64 0,.int .u64 0,.string ⟨#[]⟩,.slice none 0 0]) 64 (by rfl) Tryz.underlying49 inf56 rfl (by decide) (by decide) (.slice (some ⟨w.heap.size+1,0,none⟩) 0 0) [] rs0 Ak rs0.length ck (fun q=>o2.from_ ((w.alloc (.cells #[] 3)).alloc (.cells #[] 56)).drew.heap.size τ q=τ) (fun _=>False) (by rfl) (by rfl) (E20_2.out.renew τ) (RC.out _ _ HF2.out) (fun _ _ h=>h) (fun _ h=>h.elim) (fun q hq=>Own.from_ge hq) (Below.refl _ _) (Nat.zero_le _) (by simp;omega) ?_
     intro v25 w25 h25 _ hg25 _
     obtain ⟨A25,c25,hv25⟩:=Kd.R_slice h25
     subst hv25
     simp only [List.nil_append]at h25 ⊢
     have HF3:=Lib.hid ((HF2.out.renew τ (.inr (.inl rfl))).grown hg25 (fun q e=>.inl (by have hk2:=(Kd.R_bound E20_2.out).1 q e;rw [Own.from_lt hk2.2.2.1,hk2.1];unfold MkM;omega)))
     have KP3:=Lib.hid (((Kp.refl (·=τ) ((w.alloc (.cells #[] 3)).alloc (.cells #[] 56)).drew o2).renew τ).grown hg25 (fun q e=>.inl (by have hk2:=(Kd.R_bound E20_2.out).1 q e;exact (Own.from_lt hk2.2.2.1).trans hk2.1)))
     have E25_3:Hid (Row kNV 56 w25 (o2.from_ ((w.alloc (.cells #[] 3)).alloc (.cells #[] 56)).drew.heap.size τ) τ (.slice A25 rs0.length c25) rs0):=h25
     have E26_3:=Lib.hid (E26_2.out.fr KP3.out (by omega))
     clear KP3 h25 hg25
     generalize o2.from_ ((w.alloc (.cells #[] 3)).alloc (.cells #[] 56)).drew.heap.size τ=o3 at *
     refine hK.out _ _ (LC.out _ _ HF3.out) (fun hHeld=>?_)
     clear hK K
     refine norm_ (a':=?_) ?_ ?_
     rotate_left
     ·show Act.put _ (some 36) _=_
      simp only [Act.put,List.setIfInBounds_toArray,List.set_cons_zero,List.set_cons_succ,i64_w,i32_w]
      rfl
     exact norm_ (by simp only [putAll,Act.put,List.setIfInBounds_toArray,List.set_cons_zero,List.set_cons_succ]) (hCont ⟨w.heap.size+1,A25,c25,w.heap.size⟩ _ ⟨_,HF3.out,E25_3.out,E26_3.out⟩)
    ·skip
     refine value_ (w1:=?_) (v:=?_) (by rfl) rfl ?_ ?_
     rotate_left 2
     ·go_simp
      constructor
      ·rfl
      ·rfl
     have HF2:Hid (Fr (MkM τ) w o ((w.alloc (.cells #[] 3)).alloc (.cells #[] 56)).drew (o1.from_ (w.alloc (.cells #[] 3)).drew.heap.size τ)):=Lib.hid ((HF1.out.renew τ (.inr (.inl rfl))).alloc (.cells #[] 56))
     have KP2:Hid (Kp (fun _=>False) (w.alloc (.cells #[] 3)).drew o1 ((w.alloc (.cells #[] 3)).alloc (.cells #[] 56)).drew (o1.from_ (w.alloc (.cells #[] 3)).drew.heap.size τ)):=Lib.hid (((Kp.refl (fun _=>False) (w.alloc (.cells #[] 3)).drew o1).renew τ).alloc (.cells #[] 56))
     have E20_2:Hid (Row kNV 56 ((w.alloc (.cells #[] 3)).alloc (.cells #[] 56)).drew (o1.from_ (w.alloc (.cells #[] 3)).drew.heap.size τ) τ (.slice (some ⟨w.heap.size+1,0,none⟩) 0 0) []):=Lib.hid (Row.empty2 kNV 56 (w.alloc (.cells #[] 3)).drew o1 τ (n:=w.heap.size+1) (by simp))
     have E26_2:=Lib.hid (E26_1.out.fr KP2.out (fun h=>h))
     clear KP2
     generalize o1.from_ (w.alloc (.cells #[] 3)).drew.heap.size τ=o2 at *
     refine hK.out _ _ (LC.out _ _ HF2.out) (fun hHeld=>?_)
     clear hK K
     refine norm_ (a':=?_) ?_ ?_
     rotate_left
     ·show Act.put _ (some 31) _=_
      simp only [Act.put,List.setIfInBounds_toArray,List.set_cons_zero,List.set_cons_succ,i64_w,i32_w]
      rfl
     refine one_ (i:=19) (N:=some 30) #[true,true,true,true,true,true,true,true,true,true,true,true,true,true,true,true,true,true,true,true,true,true,true,true,true,false,true,true,true,true,true,false,true,true,true,true,false,false,false,false,false,false] rfl rfl (by kernel_rfl) (by decide) (fun K hK=>?_)
     refine goes_ Tryz.func42 (by kernel_rfl) rfl #[.pointer (some ⟨sg,0,none⟩)] (by rfl) rfl rfl (by simp only [List.map_toArray,List.map_cons,List.map_nil];rfl) ?_
     with_reducible refine (mark_calls (LIM.out _ _ HF2.out).sets.uf).mono ?_
     rintro e w1 ⟨rfl,rfl⟩
     refine ⟨_,rfl,?_⟩
     refine hK.out _ _ (LC.out _ _ HF2.out) (fun hHeld=>?_)
     clear hK K
     refine norm_ (a':=?_) ?_ ?_
     rotate_left
     ·show Act.put _ (some 30) _=_
      simp only [Act.put,List.setIfInBounds_toArray,List.set_cons_zero,List.set_cons_succ,i64_w,i32_w]
      rfl
     refine one_ (i:=25) (N:=some 36) #[true,true,true,true,true,true,true,true,true,true,true,true,true,true,true,true,true,true,true,true,true,true,true,true,true,true,true,true,true,true,true,false,true,true,true,true,false,false,false,false,false,false] rfl rfl (by kernel_rfl) (by decide) (fun K hK=>?_)
     refine Kd.R_append_rows_step kNV (w0:=((w.alloc (.cells #[] 3)).alloc (.cells #[] 56)).drew) (W:=((w.alloc (.cells #[] 3)).alloc (.cells #[] 56)).drew) 0 (by rfl) (.tmp 31) (.tmp 35) 49 56 (.agg #[.int .i64 0,.int .i64 0,.int .u64 0,.string ⟨#[]⟩,.slice none 0 0]) 64 (by rfl) Tryz.underlying49 inf56 rfl (by decide) (by decide) (.slice (some ⟨w.heap.size+1,0,none⟩) 0 0) [] rs0 Ak rs0.length ck (fun q=>o2.from_ ((w.alloc (.cells #[] 3)).alloc (.cells #[] 56)).drew.heap.size τ q=τ) (fun _=>False) (by rfl) (by rfl) (E20_2.out.renew τ) (RC.out _ _ HF2.out) (fun _ _ h=>h) (fun _ h=>h.elim) (fun q hq=>Own.from_ge hq) (Below.refl _ _) (Nat.zero_le _) (by simp;omega) ?_
     intro v25 w25 h25 _ hg25 _
     obtain ⟨A25,c25,hv25⟩:=Kd.R_slice h25
     subst hv25
     simp only [List.nil_append]at h25 ⊢
     have HF3:=Lib.hid ((HF2.out.renew τ (.inr (.inl rfl))).grown hg25 (fun q e=>.inl (by have hk2:=(Kd.R_bound E20_2.out).1 q e;rw [Own.from_lt hk2.2.2.1,hk2.1];unfold MkM;omega)))
     have KP3:=Lib.hid (((Kp.refl (·=τ) ((w.alloc (.cells #[] 3)).alloc (.cells #[] 56)).drew o2).renew τ).grown hg25 (fun q e=>.inl (by have hk2:=(Kd.R_bound E20_2.out).1 q e;exact (Own.from_lt hk2.2.2.1).trans hk2.1)))
     have E25_3:Hid (Row kNV 56 w25 (o2.from_ ((w.alloc (.cells #[] 3)).alloc (.cells #[] 56)).drew.heap.size τ) τ (.slice A25 rs0.length c25) rs0):=h25
     have E26_3:=Lib.hid (E26_2.out.fr KP3.out (by omega))
     clear KP3 h25 hg25
     generalize o2.from_ ((w.alloc (.cells #[] 3)).alloc (.cells #[] 56)).drew.heap.size τ=o3 at *
     refine hK.out _ _ (LC.out _ _ HF3.out) (fun hHeld=>?_)
     clear hK K
     refine norm_ (a':=?_) ?_ ?_
     rotate_left
     ·show Act.put _ (some 36) _=_
      simp only [Act.put,List.setIfInBounds_toArray,List.set_cons_zero,List.set_cons_succ,i64_w,i32_w]
      rfl
     exact norm_ (by simp only [putAll,Act.put,List.setIfInBounds_toArray,List.set_cons_zero,List.set_cons_succ]) (hCont ⟨w.heap.size+1,A25,c25,w.heap.size⟩ _ ⟨_,HF3.out,E25_3.out,E26_3.out⟩)
  ·skip
   refine value_ (w1:=?_) (v:=?_) (by rfl) rfl ?_ ?_
   rotate_left 2
   ·go_simp
    constructor
    ·rfl
    ·rfl
   have HF1:Hid (Fr (MkM τ) w o (w.alloc (.cells #[] 56)).drew (o0.from_ w.drew.heap.size τ)):=Lib.hid ((HF0.out.renew τ (.inr (.inl rfl))).alloc (.cells #[] 56))
   have KP1:Hid (Kp (fun _=>False) w.drew o0 (w.alloc (.cells #[] 56)).drew (o0.from_ w.drew.heap.size τ)):=Lib.hid (((Kp.refl (fun _=>False) w.drew o0).renew τ).alloc (.cells #[] 56))
   have E20_1:Hid (Row kNV 56 (w.alloc (.cells #[] 56)).drew (o0.from_ w.drew.heap.size τ) τ (.slice (some ⟨w.heap.size,0,none⟩) 0 0) []):=Lib.hid (Row.empty2 kNV 56 w.drew o0 τ (n:=w.heap.size) (by simp))
   clear KP1
   generalize o0.from_ w.drew.heap.size τ=o1 at *
   refine hK.out _ _ (LC.out _ _ HF1.out) (fun hHeld=>?_)
   clear hK K
   refine norm_ (a':=?_) ?_ ?_
   rotate_left
   ·show Act.put _ (some 31) _=_
    simp only [Act.put,List.setIfInBounds_toArray,List.set_cons_zero,List.set_cons_succ,i64_w,i32_w]
    rfl
   refine two_ (i:=14) (j:=26) (Ni:=some 25) (Nj:=some 37) #[true,true,true,true,true,true,true,true,true,true,true,true,true,true,true,true,true,true,true,false,true,true,true,true,true,false,false,true,true,true,true,false,true,true,true,true,false,false,false,false,false,false] #[true,true,true,true,true,true,true,true,true,true,true,true,true,true,false,true,true,true,true,false,true,true,true,true,true,false,true,true,true,true,true,false,true,true,true,true,false,false,false,false,false,false] rfl rfl rfl rfl (by kernel_rfl) (by decide) (by decide) (fun K hK=>?_) (fun K hK=>?_)
   ·skip
    refine goes_ Tryz.func41 (by kernel_rfl) rfl #[.pointer (some ⟨fg,0,none⟩)] (by rfl) rfl rfl (by simp only [List.map_toArray,List.map_cons,List.map_nil];rfl) ?_
    with_reducible refine (forest_len (b:=b+13) (LIM.out _ _ HF1.out).forest hL10).mono ?_
    rintro e w1 ⟨rfl,rfl⟩
    refine ⟨_,rfl,?_⟩
    refine hK.out _ _ (LC.out _ _ HF1.out) (fun hHeld=>?_)
    clear hK K
    refine norm_ (a':=?_) ?_ ?_
    rotate_left
    ·show Act.put _ (some 25) _=_
     simp only [Act.put,List.setIfInBounds_toArray,List.set_cons_zero,List.set_cons_succ,i64_w,i32_w]
     rfl
    refine two_ (i:=19) (j:=26) (Ni:=some 30) (Nj:=some 37) #[true,true,true,true,true,true,true,true,true,true,true,true,true,true,true,true,true,true,true,true,true,true,true,true,true,false,false,true,true,true,true,false,true,true,true,true,false,false,false,false,false,false] #[true,true,true,true,true,true,true,true,true,true,true,true,true,true,true,true,true,true,true,false,true,true,true,true,true,false,true,true,true,true,true,false,true,true,true,true,false,false,false,false,false,false] rfl rfl rfl rfl (by kernel_rfl) (by decide) (by decide) (fun K hK=>?_) (fun K hK=>?_)
    ·skip
     refine goes_ Tryz.func42 (by kernel_rfl) rfl #[.pointer (some ⟨sg,0,none⟩)] (by rfl) rfl rfl (by simp only [List.map_toArray,List.map_cons,List.map_nil];rfl) ?_
     with_reducible refine (mark_calls (LIM.out _ _ HF1.out).sets.uf).mono ?_
     rintro e w1 ⟨rfl,rfl⟩
     refine ⟨_,rfl,?_⟩
     refine hK.out _ _ (LC.out _ _ HF1.out) (fun hHeld=>?_)
     clear hK K
     refine norm_ (a':=?_) ?_ ?_
     rotate_left
     ·show Act.put _ (some 30) _=_
      simp only [Act.put,List.setIfInBounds_toArray,List.set_cons_zero,List.set_cons_succ,i64_w,i32_w]
      rfl
     refine two_ (i:=25) (j:=26) (Ni:=some 36) (Nj:=some 37) #[true,true,true,true,true,true,true,true,true,true,true,true,true,true,true,true,true,true,true,true,true,true,true,true,true,true,false,true,true,true,true,false,true,true,true,true,false,false,false,false,false,false] #[true,true,true,true,true,true,true,true,true,true,true,true,true,true,true,true,true,true,true,true,true,true,true,true,true,false,true,true,true,true,true,false,true,true,true,true,false,false,false,false,false,false] rfl rfl rfl rfl (by kernel_rfl) (by decide) (by decide) (fun K hK=>?_) (fun K hK=>?_)
     ·skip
      refine Kd.R_append_rows_step kNV (w0:=(w.alloc (.cells #[] 56)).drew) (W:=(w.alloc (.cells #[] 56)).drew) 0 (by rfl) (.tmp 31) (.tmp 35) 49 56 (.agg #[.int .i64 0,.int .i64 0,.int .u64 0,.string ⟨#[]⟩,.slice none 0 0]) 64 (by rfl) Tryz.underlying49 inf56 rfl (by decide) (by decide) (.slice (some ⟨w.heap.size,0,none⟩) 0 0) [] rs0 Ak rs0.length ck (fun q=>o1.from_ (w.alloc (.cells #[] 56)).drew.heap.size τ q=τ) (fun _=>False) (by rfl) (by rfl) (E20_1.out.renew τ) (RC.out _ _ HF1.out) (fun _ _ h=>h) (fun _ h=>h.elim) (fun q hq=>Own.from_ge hq) (Below.refl _ _) (Nat.zero_le _) (by simp;omega) ?_
      intro v25 w25 h25 _ hg25 _
      obtain ⟨A25,c25,hv25⟩:=Kd.R_slice h25
      subst hv25
      simp only [List.nil_append]at h25 ⊢
      have HF2:=Lib.hid ((HF1.out.renew τ (.inr (.inl rfl))).grown hg25 (fun q e=>.inl (by have hk2:=(Kd.R_bound E20_1.out).1 q e;rw [Own.from_lt hk2.2.2.1,hk2.1];unfold MkM;omega)))
      have KP2:=Lib.hid (((Kp.refl (·=τ) (w.alloc (.cells #[] 56)).drew o1).renew τ).grown hg25 (fun q e=>.inl (by have hk2:=(Kd.R_bound E20_1.out).1 q e;exact (Own.from_lt hk2.2.2.1).trans hk2.1)))
      have E25_2:Hid (Row kNV 56 w25 (o1.from_ (w.alloc (.cells #[] 56)).drew.heap.size τ) τ (.slice A25 rs0.length c25) rs0):=h25
      clear KP2 h25 hg25
      generalize o1.from_ (w.alloc (.cells #[] 56)).drew.heap.size τ=o2 at *
      refine hK.out _ _ (LC.out _ _ HF2.out) (fun hHeld=>?_)
      clear hK K
      refine norm_ (a':=?_) ?_ ?_
      rotate_left
      ·show Act.put _ (some 36) _=_
       simp only [Act.put,List.setIfInBounds_toArray,List.set_cons_zero,List.set_cons_succ,i64_w,i32_w]
       rfl
      refine one_ (i:=26) (N:=some 37) #[true,true,true,true,true,true,true,true,true,true,true,true,true,true,true,true,true,true,true,true,true,true,true,true,true,true,true,true,true,true,true,false,true,true,true,true,false,false,false,false,false,false] rfl rfl (by kernel_rfl) (by decide) (fun K hK=>?_)
      refine value_ (w1:=?_) (v:=?_) (by rfl) rfl ?_ ?_
      rotate_left 2
      ·go_simp
       constructor
       ·rfl
       ·rfl
      have HF3:Hid (Fr (MkM τ) w o (w25.alloc (.cells #[] 3)) (o2.from_ w25.heap.size (τ+1))):=Lib.hid ((HF2.out.renew (τ+1) (.inr (.inr rfl))).alloc (.cells #[] 3))
      have KP3:Hid (Kp (fun _=>False) w25 o2 (w25.alloc (.cells #[] 3)) (o2.from_ w25.heap.size (τ+1))):=Lib.hid (((Kp.refl (fun _=>False) w25 o2).renew (τ+1)).alloc (.cells #[] 3))
      have E26_3:Hid (Row (Kd.int .i64) 3 (w25.alloc (.cells #[] 3)) (o2.from_ w25.heap.size (τ+1)) (τ+1) (.slice (some ⟨w25.heap.size,0,none⟩) 0 0) []):=Lib.hid (Row.empty2 (Kd.int .i64) 3 w25 o2 (τ+1) (n:=w25.heap.size) (by simp))
      have E25_3:=Lib.hid (E25_2.out.fr KP3.out (fun h=>h))
      clear KP3
      generalize o2.from_ w25.heap.size (τ+1)=o3 at *
      refine hK.out _ _ (LC.out _ _ HF3.out) (fun hHeld=>?_)
      clear hK K
      refine norm_ (a':=?_) ?_ ?_
      rotate_left
      ·show Act.put _ (some 37) _=_
       simp only [Act.put,List.setIfInBounds_toArray,List.set_cons_zero,List.set_cons_succ,i64_w,i32_w]
       rfl
      exact norm_ (by simp only [putAll,Act.put,List.setIfInBounds_toArray,List.set_cons_zero,List.set_cons_succ]) (hCont ⟨w.heap.size,A25,c25,w25.heap.size⟩ _ ⟨_,HF3.out,E25_3.out,E26_3.out⟩)
     ·skip
      refine value_ (w1:=?_) (v:=?_) (by rfl) rfl ?_ ?_
      rotate_left 2
      ·go_simp
       constructor
       ·rfl
       ·rfl
      have HF2:Hid (Fr (MkM τ) w o ((w.alloc (.cells #[] 56)).alloc (.cells #[] 3)).drew (o1.from_ (w.alloc (.cells #[] 56)).drew.heap.size (τ+1))):=Lib.hid ((HF1.out.renew (τ+1) (.inr (.inr rfl))).alloc (.cells #[] 3))
      have KP2:Hid (Kp (fun _=>False) (w.alloc (.cells #[] 56)).drew o1 ((w.alloc (.cells #[] 56)).alloc (.cells #[] 3)).drew (o1.from_ (w.alloc (.cells #[] 56)).drew.heap.size (τ+1))):=Lib.hid (((Kp.refl (fun _=>False) (w.alloc (.cells #[] 56)).drew o1).renew (τ+1)).alloc (.cells #[] 3))
      have E26_2:Hid (Row (Kd.int .i64) 3 ((w.alloc (.cells #[] 56)).alloc (.cells #[] 3)).drew (o1.from_ (w.alloc (.cells #[] 56)).drew.heap.size (τ+1)) (τ+1) (.slice (some ⟨w.heap.size+1,0,none⟩) 0 0) []):=Lib.hid (Row.empty2 (Kd.int .i64) 3 (w.alloc (.cells #[] 56)).drew o1 (τ+1) (n:=w.heap.size+1) (by simp))
      have E20_2:=Lib.hid (E20_1.out.fr KP2.out (fun h=>h))
      clear KP2
      generalize o1.from_ (w.alloc (.cells #[] 56)).drew.heap.size (τ+1)=o2 at *
      refine hK.out _ _ (LC.out _ _ HF2.out) (fun hHeld=>?_)
      clear hK K
      refine norm_ (a':=?_) ?_ ?_
      rotate_left
      ·show Act.put _ (some 37) _=_
       simp only [Act.put,List.setIfInBounds_toArray,List.set_cons_zero,List.set_cons_succ,i64_w,i32_w]
       rfl
      refine one_ (i:=25) (N:=some 36) #[true,true,true,true,true,true,true,true,true,true,true,true,true,true,true,true,true,true,true,true,true,true,true,true,true,true,true,true,true,true,true,false,true,true,true,true,false,false,false,false,false,false] rfl rfl (by kernel_rfl) (by decide) (fun K hK=>?_)
      refine Kd.R_append_rows_step kNV (w0:=((w.alloc (.cells #[] 56)).alloc (.cells #[] 3)).drew) (W:=((w.alloc (.cells #[] 56)).alloc (.cells #[] 3)).drew) 0 (by rfl) (.tmp 31) (.tmp 35) 49 56 (.agg #[.int .i64 0,.int .i64 0,.int .u64 0,.string ⟨#[]⟩,.slice none 0 0]) 64 (by rfl) Tryz.underlying49 inf56 rfl (by decide) (by decide) (.slice (some ⟨w.heap.size,0,none⟩) 0 0) [] rs0 Ak rs0.length ck (fun q=>o2.from_ ((w.alloc (.cells #[] 56)).alloc (.cells #[] 3)).drew.heap.size τ q=τ) (fun _=>False) (by rfl) (by rfl) (E20_2.out.renew τ) (RC.out _ _ HF2.out) (fun _ _ h=>h) (fun _ h=>h.elim) (fun q hq=>Own.from_ge hq) (Below.refl _ _) (Nat.zero_le _) (by simp;omega) ?_
      intro v25 w25 h25 _ hg25 _
      obtain ⟨A25,c25,hv25⟩:=Kd.R_slice h25
      subst hv25
      simp only [List.nil_append]at h25 ⊢
      have HF3:=Lib.hid ((HF2.out.renew τ (.inr (.inl rfl))).grown hg25 (fun q e=>.inl (by have hk2:=(Kd.R_bound E20_2.out).1 q e;rw [Own.from_lt hk2.2.2.1,hk2.1];unfold MkM;omega)))
      have KP3:=Lib.hid (((Kp.refl (·=τ) ((w.alloc (.cells #[] 56)).alloc (.cells #[] 3)).drew o2).renew τ).grown hg25 (fun q e=>.inl (by have hk2:=(Kd.R_bound E20_2.out).1 q e;exact (Own.from_lt hk2.2.2.1).trans hk2.1)))
      have E25_3:Hid (Row kNV 56 w25 (o2.from_ ((w.alloc (.cells #[] 56)).alloc (.cells #[] 3)).drew.heap.size τ) τ (.slice A25 rs0.length c25) rs0):=h25
      have E26_3:=Lib.hid (E26_2.out.fr KP3.out (by omega))
      clear KP3 h25 hg25
      generalize o2.from_ ((w.alloc (.cells #[] 56)).alloc (.cells #[] 3)).drew.heap.size τ=o3 at *
      refine hK.out _ _ (LC.out _ _ HF3.out) (fun hHeld=>?_)
      clear hK K
      refine norm_ (a':=?_) ?_ ?_
      rotate_left
      ·show Act.put _ (some 36) _=_
       simp only [Act.put,List.setIfInBounds_toArray,List.set_cons_zero,List.set_cons_succ,i64_w,i32_w]
       rfl
      exact norm_ (by simp only [putAll,Act.put,List.setIfInBounds_toArray,List.set_cons_zero,List.set_cons_succ]) (hCont ⟨w.heap.size,A25,c25,w.heap.size+1⟩ _ ⟨_,HF3.out,E25_3.out,E26_3.out⟩)
    ·skip
     refine value_ (w1:=?_) (v:=?_) (by rfl) rfl ?_ ?_
     rotate_left 2
     ·go_simp
      constructor
      ·rfl
      ·rfl
     have HF2:Hid (Fr (MkM τ) w o ((w.alloc (.cells #[] 56)).alloc (.cells #[] 3)).drew (o1.from_ (w.alloc (.cells #[] 56)).drew.heap.size (τ+1))):=Lib.hid ((HF1.out.renew (τ+1) (.inr (.inr rfl))).alloc (.cells #[] 3))
     have KP2:Hid (Kp (fun _=>False) (w.alloc (.cells #[] 56)).drew o1 ((w.alloc (.cells #[] 56)).alloc (.cells #[] 3)).drew (o1.from_ (w.alloc (.cells #[] 56)).drew.heap.size (τ+1))):=Lib.hid (((Kp.refl (fun _=>False) (w.alloc (.cells #[] 56)).drew o1).renew (τ+1)).alloc (.cells #[] 3))
     have E26_2:Hid (Row (Kd.int .i64) 3 ((w.alloc (.cells #[] 56)).alloc (.cells #[] 3)).drew (o1.from_ (w.alloc (.cells #[] 56)).drew.heap.size (τ+1)) (τ+1) (.slice (some ⟨w.heap.size+1,0,none⟩) 0 0) []):=Lib.hid (Row.empty2 (Kd.int .i64) 3 (w.alloc (.cells #[] 56)).drew o1 (τ+1) (n:=w.heap.size+1) (by simp))
     have E20_2:=Lib.hid (E20_1.out.fr KP2.out (fun h=>h))
     clear KP2
     generalize o1.from_ (w.alloc (.cells #[] 56)).drew.heap.size (τ+1)=o2 at *
     refine hK.out _ _ (LC.out _ _ HF2.out) (fun hHeld=>?_)
     clear hK K
     refine norm_ (a':=?_) ?_ ?_
     rotate_left
     ·show Act.put _ (some 37) _=_
      simp only [Act.put,List.setIfInBounds_toArray,List.set_cons_zero,List.set_cons_succ,i64_w,i32_w]
      rfl
     refine one_ (i:=19) (N:=some 30) #[true,true,true,true,true,true,true,true,true,true,true,true,true,true,true,true,true,true,true,true,true,true,true,true,true,false,true,true,true,true,true,false,true,true,true,true,false,false,false,false,false,false] rfl rfl (by kernel_rfl) (by decide) (fun K hK=>?_)
     refine goes_ Tryz.func42 (by kernel_rfl) rfl #[.pointer (some ⟨sg,0,none⟩)] (by rfl) rfl rfl (by simp only [List.map_toArray,List.map_cons,List.map_nil];rfl) ?_
     with_reducible refine (mark_calls (LIM.out _ _ HF2.out).sets.uf).mono ?_
     rintro e w1 ⟨rfl,rfl⟩
     refine ⟨_,rfl,?_⟩
     refine hK.out _ _ (LC.out _ _ HF2.out) (fun hHeld=>?_)
     clear hK K
     refine norm_ (a':=?_) ?_ ?_
     rotate_left
     ·show Act.put _ (some 30) _=_
      simp only [Act.put,List.setIfInBounds_toArray,List.set_cons_zero,List.set_cons_succ,i64_w,i32_w]
      rfl
     refine one_ (i:=25) (N:=some 36) #[true,true,true,true,true,true,true,true,true,true,true,true,true,true,true,true,true,true,true,true,true,true,true,true,true,true,true,true,true,true,true,false,true,true,true,true,false,false,false,false,false,false] rfl rfl (by kernel_rfl) (by decide) (fun K hK=>?_)
     refine Kd.R_append_rows_step kNV (w0:=((w.alloc (.cells #[] 56)).alloc (.cells #[] 3)).drew) (W:=((w.alloc (.cells #[] 56)).alloc (.cells #[] 3)).drew) 0 (by rfl) (.tmp 31) (.tmp 35) 49 56 (.agg #[.int .i64 0,.int .i64 0,.int .u64 0,.string ⟨#[]⟩,.slice none 0 0]) 64 (by rfl) Tryz.underlying49 inf56 rfl (by decide) (by decide) (.slice (some ⟨w.heap.size,0,none⟩) 0 0) [] rs0 Ak rs0.length ck (fun q=>o2.from_ ((w.alloc (.cells #[] 56)).alloc (.cells #[] 3)).drew.heap.size τ q=τ) (fun _=>False) (by rfl) (by rfl) (E20_2.out.renew τ) (RC.out _ _ HF2.out) (fun _ _ h=>h) (fun _ h=>h.elim) (fun q hq=>Own.from_ge hq) (Below.refl _ _) (Nat.zero_le _) (by simp;omega) ?_
     intro v25 w25 h25 _ hg25 _
     obtain ⟨A25,c25,hv25⟩:=Kd.R_slice h25
     subst hv25
     simp only [List.nil_append]at h25 ⊢
     have HF3:=Lib.hid ((HF2.out.renew τ (.inr (.inl rfl))).grown hg25 (fun q e=>.inl (by have hk2:=(Kd.R_bound E20_2.out).1 q e;rw [Own.from_lt hk2.2.2.1,hk2.1];unfold MkM;omega)))
     have KP3:=Lib.hid (((Kp.refl (·=τ) ((w.alloc (.cells #[] 56)).alloc (.cells #[] 3)).drew o2).renew τ).grown hg25 (fun q e=>.inl (by have hk2:=(Kd.R_bound E20_2.out).1 q e;exact (Own.from_lt hk2.2.2.1).trans hk2.1)))
     have E25_3:Hid (Row kNV 56 w25 (o2.from_ ((w.alloc (.cells #[] 56)).alloc (.cells #[] 3)).drew.heap.size τ) τ (.slice A25 rs0.length c25) rs0):=h25
     have E26_3:=Lib.hid (E26_2.out.fr KP3.out (by omega))
     clear KP3 h25 hg25
     generalize o2.from_ ((w.alloc (.cells #[] 56)).alloc (.cells #[] 3)).drew.heap.size τ=o3 at *
     refine hK.out _ _ (LC.out _ _ HF3.out) (fun hHeld=>?_)
     clear hK K
     refine norm_ (a':=?_) ?_ ?_
     rotate_left
     ·show Act.put _ (some 36) _=_
      simp only [Act.put,List.setIfInBounds_toArray,List.set_cons_zero,List.set_cons_succ,i64_w,i32_w]
      rfl
     exact norm_ (by simp only [putAll,Act.put,List.setIfInBounds_toArray,List.set_cons_zero,List.set_cons_succ]) (hCont ⟨w.heap.size,A25,c25,w.heap.size+1⟩ _ ⟨_,HF3.out,E25_3.out,E26_3.out⟩)
   ·skip
    refine value_ (w1:=?_) (v:=?_) (by rfl) rfl ?_ ?_
    rotate_left 2
    ·go_simp
     constructor
     ·rfl
     ·rfl
    have HF2:Hid (Fr (MkM τ) w o ((w.alloc (.cells #[] 56)).alloc (.cells #[] 3)).drew (o1.from_ (w.alloc (.cells #[] 56)).drew.heap.size (τ+1))):=Lib.hid ((HF1.out.renew (τ+1) (.inr (.inr rfl))).alloc (.cells #[] 3))
    have KP2:Hid (Kp (fun _=>False) (w.alloc (.cells #[] 56)).drew o1 ((w.alloc (.cells #[] 56)).alloc (.cells #[] 3)).drew (o1.from_ (w.alloc (.cells #[] 56)).drew.heap.size (τ+1))):=Lib.hid (((Kp.refl (fun _=>False) (w.alloc (.cells #[] 56)).drew o1).renew (τ+1)).alloc (.cells #[] 3))
    have E26_2:Hid (Row (Kd.int .i64) 3 ((w.alloc (.cells #[] 56)).alloc (.cells #[] 3)).drew (o1.from_ (w.alloc (.cells #[] 56)).drew.heap.size (τ+1)) (τ+1) (.slice (some ⟨w.heap.size+1,0,none⟩) 0 0) []):=Lib.hid (Row.empty2 (Kd.int .i64) 3 (w.alloc (.cells #[] 56)).drew o1 (τ+1) (n:=w.heap.size+1) (by simp))
    have E20_2:=Lib.hid (E20_1.out.fr KP2.out (fun h=>h))
    clear KP2
    generalize o1.from_ (w.alloc (.cells #[] 56)).drew.heap.size (τ+1)=o2 at *
    refine hK.out _ _ (LC.out _ _ HF2.out) (fun hHeld=>?_)
    clear hK K
    refine norm_ (a':=?_) ?_ ?_
    rotate_left
    ·show Act.put _ (some 37) _=_
     simp only [Act.put,List.setIfInBounds_toArray,List.set_cons_zero,List.set_cons_succ,i64_w,i32_w]
     rfl
    refine one_ (i:=14) (N:=some 25) #[true,true,true,true,true,true,true,true,true,true,true,true,true,true,true,true,true,true,true,false,true,true,true,true,true,false,true,true,true,true,true,false,true,true,true,true,false,false,false,false,false,false] rfl rfl (by kernel_rfl) (by decide) (fun K hK=>?_)
    refine goes_ Tryz.func41 (by kernel_rfl) rfl #[.pointer (some ⟨fg,0,none⟩)] (by rfl) rfl rfl (by simp only [List.map_toArray,List.map_cons,List.map_nil];rfl) ?_
    with_reducible refine (forest_len (b:=b+13) (LIM.out _ _ HF2.out).forest hL10).mono ?_
    rintro e w1 ⟨rfl,rfl⟩
    refine ⟨_,rfl,?_⟩
    refine hK.out _ _ (LC.out _ _ HF2.out) (fun hHeld=>?_)
    clear hK K
    refine norm_ (a':=?_) ?_ ?_
    rotate_left
    ·show Act.put _ (some 25) _=_
     simp only [Act.put,List.setIfInBounds_toArray,List.set_cons_zero,List.set_cons_succ,i64_w,i32_w]
     rfl
    refine one_ (i:=19) (N:=some 30) #[true,true,true,true,true,true,true,true,true,true,true,true,true,true,true,true,true,true,true,true,true,true,true,true,true,false,true,true,true,true,true,false,true,true,true,true,false,false,false,false,false,false] rfl rfl (by kernel_rfl) (by decide) (fun K hK=>?_)
    refine goes_ Tryz.func42 (by kernel_rfl) rfl #[.pointer (some ⟨sg,0,none⟩)] (by rfl) rfl rfl (by simp only [List.map_toArray,List.map_cons,List.map_nil];rfl) ?_
    with_reducible refine (mark_calls (LIM.out _ _ HF2.out).sets.uf).mono ?_
    rintro e w1 ⟨rfl,rfl⟩
    refine ⟨_,rfl,?_⟩
    refine hK.out _ _ (LC.out _ _ HF2.out) (fun hHeld=>?_)
    clear hK K
    refine norm_ (a':=?_) ?_ ?_
    rotate_left
    ·show Act.put _ (some 30) _=_
     simp only [Act.put,List.setIfInBounds_toArray,List.set_cons_zero,List.set_cons_succ,i64_w,i32_w]
     rfl
    refine one_ (i:=25) (N:=some 36) #[true,true,true,true,true,true,true,true,true,true,true,true,true,true,true,true,true,true,true,true,true,true,true,true,true,true,true,true,true,true,true,false,true,true,true,true,false,false,false,false,false,false] rfl rfl (by kernel_rfl) (by decide) (fun K hK=>?_)
    refine Kd.R_append_rows_step kNV (w0:=((w.alloc (.cells #[] 56)).alloc (.cells #[] 3)).drew) (W:=((w.alloc (.cells #[] 56)).alloc (.cells #[] 3)).drew) 0 (by rfl) (.tmp 31) (.tmp 35) 49 56 (.agg #[.int .i64 0,.int .i64 0,.int .u64 0,.string ⟨#[]⟩,.slice none 0 0]) 64 (by rfl) Tryz.underlying49 inf56 rfl (by decide) (by decide) (.slice (some ⟨w.heap.size,0,none⟩) 0 0) [] rs0 Ak rs0.length ck (fun q=>o2.from_ ((w.alloc (.cells #[] 56)).alloc (.cells #[] 3)).drew.heap.size τ q=τ) (fun _=>False) (by rfl) (by rfl) (E20_2.out.renew τ) (RC.out _ _ HF2.out) (fun _ _ h=>h) (fun _ h=>h.elim) (fun q hq=>Own.from_ge hq) (Below.refl _ _) (Nat.zero_le _) (by simp;omega) ?_
    intro v25 w25 h25 _ hg25 _
    obtain ⟨A25,c25,hv25⟩:=Kd.R_slice h25
    subst hv25
    simp only [List.nil_append]at h25 ⊢
    have HF3:=Lib.hid ((HF2.out.renew τ (.inr (.inl rfl))).grown hg25 (fun q e=>.inl (by have hk2:=(Kd.R_bound E20_2.out).1 q e;rw [Own.from_lt hk2.2.2.1,hk2.1];unfold MkM;omega)))
    have KP3:=Lib.hid (((Kp.refl (·=τ) ((w.alloc (.cells #[] 56)).alloc (.cells #[] 3)).drew o2).renew τ).grown hg25 (fun q e=>.inl (by have hk2:=(Kd.R_bound E20_2.out).1 q e;exact (Own.from_lt hk2.2.2.1).trans hk2.1)))
    have E25_3:Hid (Row kNV 56 w25 (o2.from_ ((w.alloc (.cells #[] 56)).alloc (.cells #[] 3)).drew.heap.size τ) τ (.slice A25 rs0.length c25) rs0):=h25
    have E26_3:=Lib.hid (E26_2.out.fr KP3.out (by omega))
    clear KP3 h25 hg25
    generalize o2.from_ ((w.alloc (.cells #[] 56)).alloc (.cells #[] 3)).drew.heap.size τ=o3 at *
    refine hK.out _ _ (LC.out _ _ HF3.out) (fun hHeld=>?_)
    clear hK K
    refine norm_ (a':=?_) ?_ ?_
    rotate_left
    ·show Act.put _ (some 36) _=_
     simp only [Act.put,List.setIfInBounds_toArray,List.set_cons_zero,List.set_cons_succ,i64_w,i32_w]
     rfl
    exact norm_ (by simp only [putAll,Act.put,List.setIfInBounds_toArray,List.set_cons_zero,List.set_cons_succ]) (hCont ⟨w.heap.size,A25,c25,w.heap.size+1⟩ _ ⟨_,HF3.out,E25_3.out,E26_3.out⟩)
  ·skip
   refine value_ (w1:=?_) (v:=?_) (by rfl) rfl ?_ ?_
   rotate_left 2
   ·go_simp
    constructor
    ·rfl
    ·rfl
   have HF1:Hid (Fr (MkM τ) w o (w.alloc (.cells #[] 3)).drew (o0.from_ w.drew.heap.size (τ+1))):=Lib.hid ((HF0.out.renew (τ+1) (.inr (.inr rfl))).alloc (.cells #[] 3))
   have KP1:Hid (Kp (fun _=>False) w.drew o0 (w.alloc (.cells #[] 3)).drew (o0.from_ w.drew.heap.size (τ+1))):=Lib.hid (((Kp.refl (fun _=>False) w.drew o0).renew (τ+1)).alloc (.cells #[] 3))
   have E26_1:Hid (Row (Kd.int .i64) 3 (w.alloc (.cells #[] 3)).drew (o0.from_ w.drew.heap.size (τ+1)) (τ+1) (.slice (some ⟨w.heap.size,0,none⟩) 0 0) []):=Lib.hid (Row.empty2 (Kd.int .i64) 3 w.drew o0 (τ+1) (n:=w.heap.size) (by simp))
   clear KP1
   generalize o0.from_ w.drew.heap.size (τ+1)=o1 at *
   refine hK.out _ _ (LC.out _ _ HF1.out) (fun hHeld=>?_)
   clear hK K
   refine norm_ (a':=?_) ?_ ?_
   rotate_left
   ·show Act.put _ (some 37) _=_
    simp only [Act.put,List.setIfInBounds_toArray,List.set_cons_zero,List.set_cons_succ,i64_w,i32_w]
    rfl
   refine two_ (i:=14) (j:=20) (Ni:=some 25) (Nj:=some 31) #[true,true,true,true,true,true,true,true,true,true,true,true,true,true,true,true,true,true,true,false,false,true,true,true,true,false,true,true,true,true,true,false,true,true,true,true,false,false,false,false,false,false] #[true,true,true,true,true,true,true,true,true,true,true,true,true,true,false,true,true,true,true,false,true,true,true,true,true,false,true,true,true,true,true,false,true,true,true,true,false,false,false,false,false,false] rfl rfl rfl rfl (by kernel_rfl) (by decide) (by decide) (fun K hK=>?_) (fun K hK=>?_)
   ·skip
    refine goes_ Tryz.func41 (by kernel_rfl) rfl #[.pointer (some ⟨fg,0,none⟩)] (by rfl) rfl rfl (by simp only [List.map_toArray,List.map_cons,List.map_nil];rfl) ?_
    with_reducible refine (forest_len (b:=b+13) (LIM.out _ _ HF1.out).forest hL10).mono ?_
    rintro e w1 ⟨rfl,rfl⟩
    refine ⟨_,rfl,?_⟩
    refine hK.out _ _ (LC.out _ _ HF1.out) (fun hHeld=>?_)
    clear hK K
    refine norm_ (a':=?_) ?_ ?_
    rotate_left
    ·show Act.put _ (some 25) _=_
     simp only [Act.put,List.setIfInBounds_toArray,List.set_cons_zero,List.set_cons_succ,i64_w,i32_w]
     rfl
    refine two_ (i:=19) (j:=20) (Ni:=some 30) (Nj:=some 31) #[true,true,true,true,true,true,true,true,true,true,true,true,true,true,true,true,true,true,true,true,false,true,true,true,true,false,true,true,true,true,true,false,true,true,true,true,false,false,false,false,false,false] #[true,true,true,true,true,true,true,true,true,true,true,true,true,true,true,true,true,true,true,false,true,true,true,true,true,false,true,true,true,true,true,false,true,true,true,true,false,false,false,false,false,false] rfl rfl rfl rfl (by kernel_rfl) (by decide) (by decide) (fun K hK=>?_) (fun K hK=>?_)
    ·skip
     refine goes_ Tryz.func42 (by kernel_rfl) rfl #[.pointer (some ⟨sg,0,none⟩)] (by rfl) rfl rfl (by simp only [List.map_toArray,List.map_cons,List.map_nil];rfl) ?_
     with_reducible refine (mark_calls (LIM.out _ _ HF1.out).sets.uf).mono ?_
     rintro e w1 ⟨rfl,rfl⟩
     refine ⟨_,rfl,?_⟩
     refine hK.out _ _ (LC.out _ _ HF1.out) (fun hHeld=>?_)
     clear hK K
     refine norm_ (a':=?_) ?_ ?_
     rotate_left
     ·show Act.put _ (some 30) _=_
      simp only [Act.put,List.setIfInBounds_toArray,List.set_cons_zero,List.set_cons_succ,i64_w,i32_w]
      rfl
     refine one_ (i:=20) (N:=some 31) #[true,true,true,true,true,true,true,true,true,true,true,true,true,true,true,true,true,true,true,true,true,true,true,true,true,false,true,true,true,true,true,false,true,true,true,true,false,false,false,false,false,false] rfl rfl (by kernel_rfl) (by decide) (fun K hK=>?_)
     refine value_ (w1:=?_) (v:=?_) (by rfl) rfl ?_ ?_
     rotate_left 2
     ·go_simp
      constructor
      ·rfl
      ·rfl
     have HF2:Hid (Fr (MkM τ) w o ((w.alloc (.cells #[] 3)).alloc (.cells #[] 56)).drew (o1.from_ (w.alloc (.cells #[] 3)).drew.heap.size τ)):=Lib.hid ((HF1.out.renew τ (.inr (.inl rfl))).alloc (.cells #[] 56))
     have KP2:Hid (Kp (fun _=>False) (w.alloc (.cells #[] 3)).drew o1 ((w.alloc (.cells #[] 3)).alloc (.cells #[] 56)).drew (o1.from_ (w.alloc (.cells #[] 3)).drew.heap.size τ)):=Lib.hid (((Kp.refl (fun _=>False) (w.alloc (.cells #[] 3)).drew o1).renew τ).alloc (.cells #[] 56))
     have E20_2:Hid (Row kNV 56 ((w.alloc (.cells #[] 3)).alloc (.cells #[] 56)).drew (o1.from_ (w.alloc (.cells #[] 3)).drew.heap.size τ) τ (.slice (some ⟨w.heap.size+1,0,none⟩) 0 0) []):=Lib.hid (Row.empty2 kNV 56 (w.alloc (.cells #[] 3)).drew o1 τ (n:=w.heap.size+1) (by simp))
     have E26_2:=Lib.hid (E26_1.out.fr KP2.out (fun h=>h))
     clear KP2
     generalize o1.from_ (w.alloc (.cells #[] 3)).drew.heap.size τ=o2 at *
     refine hK.out _ _ (LC.out _ _ HF2.out) (fun hHeld=>?_)
     clear hK K
     refine norm_ (a':=?_) ?_ ?_
     rotate_left
     ·show Act.put _ (some 31) _=_
      simp only [Act.put,List.setIfInBounds_toArray,List.set_cons_zero,List.set_cons_succ,i64_w,i32_w]
      rfl
     refine one_ (i:=25) (N:=some 36) #[true,true,true,true,true,true,true,true,true,true,true,true,true,true,true,true,true,true,true,true,true,true,true,true,true,true,true,true,true,true,true,false,true,true,true,true,false,false,false,false,false,false] rfl rfl (by kernel_rfl) (by decide) (fun K hK=>?_)
     refine Kd.R_append_rows_step kNV (w0:=((w.alloc (.cells #[] 3)).alloc (.cells #[] 56)).drew) (W:=((w.alloc (.cells #[] 3)).alloc (.cells #[] 56)).drew) 0 (by rfl) (.tmp 31) (.tmp 35) 49 56 (.agg #[.int .i64 0,.int .i64 0,.int .u64 0,.string ⟨#[]⟩,.slice none 0 0]) 64 (by rfl) Tryz.underlying49 inf56 rfl (by decide) (by decide) (.slice (some ⟨w.heap.size+1,0,none⟩) 0 0) [] rs0 Ak rs0.length ck (fun q=>o2.from_ ((w.alloc (.cells #[] 3)).alloc (.cells #[] 56)).drew.heap.size τ q=τ) (fun _=>False) (by rfl) (by rfl) (E20_2.out.renew τ) (RC.out _ _ HF2.out) (fun _ _ h=>h) (fun _ h=>h.elim) (fun q hq=>Own.from_ge hq) (Below.refl _ _) (Nat.zero_le _) (by simp;omega) ?_
     intro v25 w25 h25 _ hg25 _
     obtain ⟨A25,c25,hv25⟩:=Kd.R_slice h25
     subst hv25
     simp only [List.nil_append]at h25 ⊢
     have HF3:=Lib.hid ((HF2.out.renew τ (.inr (.inl rfl))).grown hg25 (fun q e=>.inl (by have hk2:=(Kd.R_bound E20_2.out).1 q e;rw [Own.from_lt hk2.2.2.1,hk2.1];unfold MkM;omega)))
     have KP3:=Lib.hid (((Kp.refl (·=τ) ((w.alloc (.cells #[] 3)).alloc (.cells #[] 56)).drew o2).renew τ).grown hg25 (fun q e=>.inl (by have hk2:=(Kd.R_bound E20_2.out).1 q e;exact (Own.from_lt hk2.2.2.1).trans hk2.1)))
     have E25_3:Hid (Row kNV 56 w25 (o2.from_ ((w.alloc (.cells #[] 3)).alloc (.cells #[] 56)).drew.heap.size τ) τ (.slice A25 rs0.length c25) rs0):=h25
     have E26_3:=Lib.hid (E26_2.out.fr KP3.out (by omega))
     clear KP3 h25 hg25
     generalize o2.from_ ((w.alloc (.cells #[] 3)).alloc (.cells #[] 56)).drew.heap.size τ=o3 at *
     refine hK.out _ _ (LC.out _ _ HF3.out) (fun hHeld=>?_)
     clear hK K
     refine norm_ (a':=?_) ?_ ?_
     rotate_left
     ·show Act.put _ (some 36) _=_
      simp only [Act.put,List.setIfInBounds_toArray,List.set_cons_zero,List.set_cons_succ,i64_w,i32_w]
      rfl
     exact norm_ (by simp only [putAll,Act.put,List.setIfInBounds_toArray,List.set_cons_zero,List.set_cons_succ]) (hCont ⟨w.heap.size+1,A25,c25,w.heap.size⟩ _ ⟨_,HF3.out,E25_3.out,E26_3.out⟩)
    ·skip
     refine value_ (w1:=?_) (v:=?_) (by rfl) rfl ?_ ?_
     rotate_left 2
     ·go_simp
      constructor
      ·rfl
      ·rfl
     have HF2:Hid (Fr (MkM τ) w o ((w.alloc (.cells #[] 3)).alloc (.cells #[] 56)).drew (o1.from_ (w.alloc (.cells #[] 3)).drew.heap.size τ)):=Lib.hid ((HF1.out.renew τ (.inr (.inl rfl))).alloc (.cells #[] 56))
     have KP2:Hid (Kp (fun _=>False) (w.alloc (.cells #[] 3)).drew o1 ((w.alloc (.cells #[] 3)).alloc (.cells #[] 56)).drew (o1.from_ (w.alloc (.cells #[] 3)).drew.heap.size τ)):=Lib.hid (((Kp.refl (fun _=>False) (w.alloc (.cells #[] 3)).drew o1).renew τ).alloc (.cells #[] 56))
     have E20_2:Hid (Row kNV 56 ((w.alloc (.cells #[] 3)).alloc (.cells #[] 56)).drew (o1.from_ (w.alloc (.cells #[] 3)).drew.heap.size τ) τ (.slice (some ⟨w.heap.size+1,0,none⟩) 0 0) []):=Lib.hid (Row.empty2 kNV 56 (w.alloc (.cells #[] 3)).drew o1 τ (n:=w.heap.size+1) (by simp))
     have E26_2:=Lib.hid (E26_1.out.fr KP2.out (fun h=>h))
     clear KP2
     generalize o1.from_ (w.alloc (.cells #[] 3)).drew.heap.size τ=o2 at *
     refine hK.out _ _ (LC.out _ _ HF2.out) (fun hHeld=>?_)
     clear hK K
     refine norm_ (a':=?_) ?_ ?_
     rotate_left
     ·show Act.put _ (some 31) _=_
      simp only [Act.put,List.setIfInBounds_toArray,List.set_cons_zero,List.set_cons_succ,i64_w,i32_w]
      rfl
     refine one_ (i:=19) (N:=some 30) #[true,true,true,true,true,true,true,true,true,true,true,true,true,true,true,true,true,true,true,true,true,true,true,true,true,false,true,true,true,true,true,false,true,true,true,true,false,false,false,false,false,false] rfl rfl (by kernel_rfl) (by decide) (fun K hK=>?_)
     refine goes_ Tryz.func42 (by kernel_rfl) rfl #[.pointer (some ⟨sg,0,none⟩)] (by rfl) rfl rfl (by simp only [List.map_toArray,List.map_cons,List.map_nil];rfl) ?_
     with_reducible refine (mark_calls (LIM.out _ _ HF2.out).sets.uf).mono ?_
     rintro e w1 ⟨rfl,rfl⟩
     refine ⟨_,rfl,?_⟩
     refine hK.out _ _ (LC.out _ _ HF2.out) (fun hHeld=>?_)
     clear hK K
     refine norm_ (a':=?_) ?_ ?_
     rotate_left
     ·show Act.put _ (some 30) _=_
      simp only [Act.put,List.setIfInBounds_toArray,List.set_cons_zero,List.set_cons_succ,i64_w,i32_w]
      rfl
     refine one_ (i:=25) (N:=some 36) #[true,true,true,true,true,true,true,true,true,true,true,true,true,true,true,true,true,true,true,true,true,true,true,true,true,true,true,true,true,true,true,false,true,true,true,true,false,false,false,false,false,false] rfl rfl (by kernel_rfl) (by decide) (fun K hK=>?_)
     refine Kd.R_append_rows_step kNV (w0:=((w.alloc (.cells #[] 3)).alloc (.cells #[] 56)).drew) (W:=((w.alloc (.cells #[] 3)).alloc (.cells #[] 56)).drew) 0 (by rfl) (.tmp 31) (.tmp 35) 49 56 (.agg #[.int .i64 0,.int .i64 0,.int .u64 0,.string ⟨#[]⟩,.slice none 0 0]) 64 (by rfl) Tryz.underlying49 inf56 rfl (by decide) (by decide) (.slice (some ⟨w.heap.size+1,0,none⟩) 0 0) [] rs0 Ak rs0.length ck (fun q=>o2.from_ ((w.alloc (.cells #[] 3)).alloc (.cells #[] 56)).drew.heap.size τ q=τ) (fun _=>False) (by rfl) (by rfl) (E20_2.out.renew τ) (RC.out _ _ HF2.out) (fun _ _ h=>h) (fun _ h=>h.elim) (fun q hq=>Own.from_ge hq) (Below.refl _ _) (Nat.zero_le _) (by simp;omega) ?_
     intro v25 w25 h25 _ hg25 _
     obtain ⟨A25,c25,hv25⟩:=Kd.R_slice h25
     subst hv25
     simp only [List.nil_append]at h25 ⊢
     have HF3:=Lib.hid ((HF2.out.renew τ (.inr (.inl rfl))).grown hg25 (fun q e=>.inl (by have hk2:=(Kd.R_bound E20_2.out).1 q e;rw [Own.from_lt hk2.2.2.1,hk2.1];unfold MkM;omega)))
     have KP3:=Lib.hid (((Kp.refl (·=τ) ((w.alloc (.cells #[] 3)).alloc (.cells #[] 56)).drew o2).renew τ).grown hg25 (fun q e=>.inl (by have hk2:=(Kd.R_bound E20_2.out).1 q e;exact (Own.from_lt hk2.2.2.1).trans hk2.1)))
     have E25_3:Hid (Row kNV 56 w25 (o2.from_ ((w.alloc (.cells #[] 3)).alloc (.cells #[] 56)).drew.heap.size τ) τ (.slice A25 rs0.length c25) rs0):=h25
     have E26_3:=Lib.hid (E26_2.out.fr KP3.out (by omega))
     clear KP3 h25 hg25
     generalize o2.from_ ((w.alloc (.cells #[] 3)).alloc (.cells #[] 56)).drew.heap.size τ=o3 at *
     refine hK.out _ _ (LC.out _ _ HF3.out) (fun hHeld=>?_)
     clear hK K
     refine norm_ (a':=?_) ?_ ?_
     rotate_left
     ·show Act.put _ (some 36) _=_
      simp only [Act.put,List.setIfInBounds_toArray,List.set_cons_zero,List.set_cons_succ,i64_w,i32_w]
      rfl
     exact norm_ (by simp only [putAll,Act.put,List.setIfInBounds_toArray,List.set_cons_zero,List.set_cons_succ]) (hCont ⟨w.heap.size+1,A25,c25,w.heap.size⟩ _ ⟨_,HF3.out,E25_3.out,E26_3.out⟩)
   ·skip
    refine value_ (w1:=?_) (v:=?_) (by rfl) rfl ?_ ?_
    rotate_left 2
    ·go_simp
     constructor
     ·rfl
     ·rfl
    have HF2:Hid (Fr (MkM τ) w o ((w.alloc (.cells #[] 3)).alloc (.cells #[] 56)).drew (o1.from_ (w.alloc (.cells #[] 3)).drew.heap.size τ)):=Lib.hid ((HF1.out.renew τ (.inr (.inl rfl))).alloc (.cells #[] 56))
    have KP2:Hid (Kp (fun _=>False) (w.alloc (.cells #[] 3)).drew o1 ((w.alloc (.cells #[] 3)).alloc (.cells #[] 56)).drew (o1.from_ (w.alloc (.cells #[] 3)).drew.heap.size τ)):=Lib.hid (((Kp.refl (fun _=>False) (w.alloc (.cells #[] 3)).drew o1).renew τ).alloc (.cells #[] 56))
    have E20_2:Hid (Row kNV 56 ((w.alloc (.cells #[] 3)).alloc (.cells #[] 56)).drew (o1.from_ (w.alloc (.cells #[] 3)).drew.heap.size τ) τ (.slice (some ⟨w.heap.size+1,0,none⟩) 0 0) []):=Lib.hid (Row.empty2 kNV 56 (w.alloc (.cells #[] 3)).drew o1 τ (n:=w.heap.size+1) (by simp))
    have E26_2:=Lib.hid (E26_1.out.fr KP2.out (fun h=>h))
    clear KP2
    generalize o1.from_ (w.alloc (.cells #[] 3)).drew.heap.size τ=o2 at *
    refine hK.out _ _ (LC.out _ _ HF2.out) (fun hHeld=>?_)
    clear hK K
    refine norm_ (a':=?_) ?_ ?_
    rotate_left
    ·show Act.put _ (some 31) _=_
     simp only [Act.put,List.setIfInBounds_toArray,List.set_cons_zero,List.set_cons_succ,i64_w,i32_w]
     rfl
    refine one_ (i:=14) (N:=some 25) #[true,true,true,true,true,true,true,true,true,true,true,true,true,true,true,true,true,true,true,false,true,true,true,true,true,false,true,true,true,true,true,false,true,true,true,true,false,false,false,false,false,false] rfl rfl (by kernel_rfl) (by decide) (fun K hK=>?_)
    refine goes_ Tryz.func41 (by kernel_rfl) rfl #[.pointer (some ⟨fg,0,none⟩)] (by rfl) rfl rfl (by simp only [List.map_toArray,List.map_cons,List.map_nil];rfl) ?_
    with_reducible refine (forest_len (b:=b+13) (LIM.out _ _ HF2.out).forest hL10).mono ?_
    rintro e w1 ⟨rfl,rfl⟩
    refine ⟨_,rfl,?_⟩
    refine hK.out _ _ (LC.out _ _ HF2.out) (fun hHeld=>?_)
    clear hK K
    refine norm_ (a':=?_) ?_ ?_
    rotate_left
    ·show Act.put _ (some 25) _=_
     simp only [Act.put,List.setIfInBounds_toArray,List.set_cons_zero,List.set_cons_succ,i64_w,i32_w]
     rfl
    refine one_ (i:=19) (N:=some 30) #[true,true,true,true,true,true,true,true,true,true,true,true,true,true,true,true,true,true,true,true,true,true,true,true,true,false,true,true,true,true,true,false,true,true,true,true,false,false,false,false,false,false] rfl rfl (by kernel_rfl) (by decide) (fun K hK=>?_)
    refine goes_ Tryz.func42 (by kernel_rfl) rfl #[.pointer (some ⟨sg,0,none⟩)] (by rfl) rfl rfl (by simp only [List.map_toArray,List.map_cons,List.map_nil];rfl) ?_
    with_reducible refine (mark_calls (LIM.out _ _ HF2.out).sets.uf).mono ?_
    rintro e w1 ⟨rfl,rfl⟩
    refine ⟨_,rfl,?_⟩
    refine hK.out _ _ (LC.out _ _ HF2.out) (fun hHeld=>?_)
    clear hK K
    refine norm_ (a':=?_) ?_ ?_
    rotate_left
    ·show Act.put _ (some 30) _=_
     simp only [Act.put,List.setIfInBounds_toArray,List.set_cons_zero,List.set_cons_succ,i64_w,i32_w]
     rfl
    refine one_ (i:=25) (N:=some 36) #[true,true,true,true,true,true,true,true,true,true,true,true,true,true,true,true,true,true,true,true,true,true,true,true,true,true,true,true,true,true,true,false,true,true,true,true,false,false,false,false,false,false] rfl rfl (by kernel_rfl) (by decide) (fun K hK=>?_)
    refine Kd.R_append_rows_step kNV (w0:=((w.alloc (.cells #[] 3)).alloc (.cells #[] 56)).drew) (W:=((w.alloc (.cells #[] 3)).alloc (.cells #[] 56)).drew) 0 (by rfl) (.tmp 31) (.tmp 35) 49 56 (.agg #[.int .i64 0,.int .i64 0,.int .u64 0,.string ⟨#[]⟩,.slice none 0 0]) 64 (by rfl) Tryz.underlying49 inf56 rfl (by decide) (by decide) (.slice (some ⟨w.heap.size+1,0,none⟩) 0 0) [] rs0 Ak rs0.length ck (fun q=>o2.from_ ((w.alloc (.cells #[] 3)).alloc (.cells #[] 56)).drew.heap.size τ q=τ) (fun _=>False) (by rfl) (by rfl) (E20_2.out.renew τ) (RC.out _ _ HF2.out) (fun _ _ h=>h) (fun _ h=>h.elim) (fun q hq=>Own.from_ge hq) (Below.refl _ _) (Nat.zero_le _) (by simp;omega) ?_
    intro v25 w25 h25 _ hg25 _
    obtain ⟨A25,c25,hv25⟩:=Kd.R_slice h25
    subst hv25
    simp only [List.nil_append]at h25 ⊢
    have HF3:=Lib.hid ((HF2.out.renew τ (.inr (.inl rfl))).grown hg25 (fun q e=>.inl (by have hk2:=(Kd.R_bound E20_2.out).1 q e;rw [Own.from_lt hk2.2.2.1,hk2.1];unfold MkM;omega)))
    have KP3:=Lib.hid (((Kp.refl (·=τ) ((w.alloc (.cells #[] 3)).alloc (.cells #[] 56)).drew o2).renew τ).grown hg25 (fun q e=>.inl (by have hk2:=(Kd.R_bound E20_2.out).1 q e;exact (Own.from_lt hk2.2.2.1).trans hk2.1)))
    have E25_3:Hid (Row kNV 56 w25 (o2.from_ ((w.alloc (.cells #[] 3)).alloc (.cells #[] 56)).drew.heap.size τ) τ (.slice A25 rs0.length c25) rs0):=h25
    have E26_3:=Lib.hid (E26_2.out.fr KP3.out (by omega))
    clear KP3 h25 hg25
    generalize o2.from_ ((w.alloc (.cells #[] 3)).alloc (.cells #[] 56)).drew.heap.size τ=o3 at *
    refine hK.out _ _ (LC.out _ _ HF3.out) (fun hHeld=>?_)
    clear hK K
    refine norm_ (a':=?_) ?_ ?_
    rotate_left
    ·show Act.put _ (some 36) _=_
     simp only [Act.put,List.setIfInBounds_toArray,List.set_cons_zero,List.set_cons_succ,i64_w,i32_w]
     rfl
    exact norm_ (by simp only [putAll,Act.put,List.setIfInBounds_toArray,List.set_cons_zero,List.set_cons_succ]) (hCont ⟨w.heap.size+1,A25,c25,w.heap.size⟩ _ ⟨_,HF3.out,E25_3.out,E26_3.out⟩)
 rintro ⟨b1,A2,c2,b3⟩ wj ⟨oj,HFJ,HK,HT⟩
 simp only at HK HT
 have HF3:=Lib.hid HFJ
 have E25_3:=Lib.hid HK
 have E26_3:=Lib.hid HT
 clear HFJ HK HT
 have hHeld:=LC.out _ _ HF3.out
 refine norm_ (a':=?_) ?_ ?_
 rotate_left
 ·simp only [putAll,Act.put,List.setIfInBounds_toArray,List.set_cons_zero,List.set_cons_succ]
  rfl
 refine one_ (i:=31) (N:=some 42) #[true,true,true,true,true,true,true,true,true,true,true,true,true,true,true,true,true,true,true,true,true,true,true,true,true,true,true,true,true,true,true,true,true,true,true,true,false,false,false,false,false,false] rfl rfl (by kernel_rfl) (by decide) (fun K hK=>?_)
 refine Kd.R_append_rows_step (Kd.int .i64) (w0:=wj) (W:=wj) 0 (by rfl) (.tmp 37) (.tmp 41) 26 3 (.int .i64 0) 8 (by rfl) Tryz.underlying26 inf3 rfl (by decide) (by decide) (.slice (some ⟨b3,0,none⟩) 0 0) [] S.todo At S.todo.length ct (fun q=>oj.from_ wj.heap.size (τ+1) q=τ+1) (fun _=>False) (by rfl) (by rfl) (E26_3.out.renew (τ+1)) (RT.out _ _ HF3.out) (fun _ _ h=>h) (fun _ h=>h.elim) (fun q hq=>Own.from_ge hq) (Below.refl _ _) (Nat.zero_le _) (by simp;omega) ?_
 intro v4 w4 h4 _ hg4 _
 obtain ⟨A4,c4,hv4⟩:=Kd.R_slice h4
 subst hv4
 simp only [List.nil_append]at h4 ⊢
 obtain ⟨o4,HJ,HKJ,HTJ⟩:=mk_retag hτ ((HF3.out.renew (τ+1) (.inr (.inr rfl))).grown hg4 (fun q e=>.inl (by have hk2:=(Kd.R_bound E26_3.out).1 q e;rw [Own.from_lt hk2.2.2.1,hk2.1];unfold MkM;omega))) (E25_3.out.fr (((Kp.refl (·=τ+1) wj oj).renew (τ+1)).grown hg4 (fun q e=>.inl (by have hk2:=(Kd.R_bound E26_3.out).1 q e;exact (Own.from_lt hk2.2.2.1).trans hk2.1))) (by omega)) h4
 clear h4 hg4 HF3 E25_3 E26_3
 refine hK.out _ _ ⟨(LCJ.out _ _ HJ.out).1,(LCJ.out _ _ HJ.out).2.1,(LCJ.out _ _ HJ.out).2.2.1,(LCJ.out _ _ HJ.out).2.2.2.1,(LCJ.out _ _ HJ.out).2.2.2.2.1,(LCJ.out _ _ HJ.out).2.2.2.2.2.1,(LCJ.out _ _ HJ.out).2.2.2.2.2.2⟩ (fun hHeld=>?_)
 clear hK K
 refine norm_ (a':=?_) ?_ ?_
 rotate_left
 ·show Act.put _ (some 42) _=_
  simp only [Act.put,List.setIfInBounds_toArray,List.set_cons_zero,List.set_cons_succ,i64_w,i32_w]
  rfl
 refine pure_ (i:=36) (N:=some 47) (v:=?_) (a':=?_) #[true,true,true,true,true,true,true,true,true,true,true,true,true,true,true,true,true,true,true,true,true,true,true,true,true,true,true,true,true,true,true,true,true,true,true,true,true,false,false,false,false,false] rfl rfl (by kernel_rfl) (fun _ _ _ h=>h) (Or.inl ⟨by rfl,?_⟩) ?_ ?_
 rotate_left
 ·intro w'
  go_simp
  with_reducible rfl
 rotate_left
 ·simp only [Act.put,List.setIfInBounds_toArray,List.set_cons_zero,List.set_cons_succ,i64_w,i32_w]
  rfl
 refine one_ (i:=37) (N:=some 48) #[true,true,true,true,true,true,true,true,true,true,true,true,true,true,true,true,true,true,true,true,true,true,true,true,true,true,true,true,true,true,true,true,true,true,true,true,true,true,false,false,false,false] rfl rfl (by kernel_rfl) (by decide) (fun K hK=>?_)
 refine value_ (w1:=?_) (v:=?_) (by rfl) rfl ?_ ?_
 rotate_left 2
 ·go_simp
  constructor
  ·rfl
  ·rfl
 refine hK.out _ _ ⟨pw_cell_below (below_alloc (Below.refl _ _) _) (LCJ.out _ _ HJ.out).1,pw_cell_below (below_alloc (Below.refl _ _) _) (LCJ.out _ _ HJ.out).2.1,pw_cell_below (below_alloc (Below.refl _ _) _) (LCJ.out _ _ HJ.out).2.2.1,pw_cell_below (below_alloc (Below.refl _ _) _) (LCJ.out _ _ HJ.out).2.2.2.1,pw_cell_below (below_alloc (Below.refl _ _) _) (LCJ.out _ _ HJ.out).2.2.2.2.1,pw_cell_below (below_alloc (Below.refl _ _) _) (LCJ.out _ _ HJ.out).2.2.2.2.2.1,pw_cell_below (below_alloc (Below.refl _ _) _) (LCJ.out _ _ HJ.out).2.2.2.2.2.2⟩ (fun hHeld=>?_)
 clear hK K
 refine norm_ (a':=?_) ?_ ?_
 rotate_left
 ·show Act.put _ (some 48) _=_
  simp only [Act.put,List.setIfInBounds_toArray,List.set_cons_zero,List.set_cons_succ,i64_w,i32_w]
  rfl
 refine one_ (i:=38) (N:=some 49) #[true,true,true,true,true,true,true,true,true,true,true,true,true,true,true,true,true,true,true,true,true,true,true,true,true,true,true,true,true,true,true,true,true,true,true,true,true,true,true,false,false,false] rfl rfl (by kernel_rfl) (by decide) (fun K hK=>?_)
 refine Kd.R_append_step kMV (w0:=w4) (W:=w4) 0 (by rfl) (.tmp 15) (.tmp 48) 63 98 (.agg #[.int .i64 0,.int .i64 0,.int .i64 0,.slice none 0 0,.slice none 0 0,.bool false]) 80 (by rfl) Tryz.underlying63 inf98 rfl (by decide) (by decide) (.slice Am S.ms.length cm) rsm (⟨S.ns.length,S.L.length,S.t.length,⟨A2,rs0.length,c2⟩,⟨A4,S.todo.length,c4⟩,S.dirty⟩:MV) [.int .i64 S.ns.length,.int .i64 S.L.length,.int .i64 S.t.length,.slice A2 rs0.length c2,.slice A4 S.todo.length c4,.bool S.dirty] (fun q=>o4.from_ w4.heap.size (b+20) q=b+20) (fun _=>False) (by rfl) (by rfl) rfl (fun _ h=>h.elim) (fun q hq=>Own.from_ge hq) ((HRM.out.fr HJ.out.kp (fun h=>h)).renew (b+20)) (Below.refl _ _) (Nat.zero_le _) (by omega) ?_
 intro v5 w5 h5 _ hg5 _
 obtain ⟨A5,c5,hv5⟩:=Kd.R_slice h5
 subst hv5
 rw [List.length_append,List.length_singleton]at h5
 have HR5:=Lib.hid h5
 have hrb:=Kd.R_bound (HRM.out.fr HJ.out.kp (fun h=>h))
 have kp5:=Lib.hid (((Kp.refl (·=b+20) w4 o4).renew (b+20)).grown hg5 (fun q e=>.inl (by have hk2:=hrb.1 q e;exact (Own.from_lt hk2.2.2.1).trans hk2.1)))
 have f5:=Lib.hid (((Fr.start (·=b+20) w4 o4 (b+20) (.inr rfl))).grown hg5 (fun q e=>.inl (by have hk2:=hrb.1 q e;exact (Own.from_lt hk2.2.2.1).trans hk2.1)))
 have hb5:=(LIMJ.out _ _ HJ.out).blk.fr kp5.out (by omega)
 have ma:w5.cell? ⟨cb,10,none⟩=some (.slice Am S.ms.length cm):=(blk_cell hb5.1 10).trans (by rw [← HLM.out];rfl)
 have mfz:=blk_frozen hb5.1 10
 clear h5 hg5 hrb
 refine hK.out _ _ ⟨ma,(blk_cell hb5.1 1).trans rfl,(blk_cell hb5.1 6).trans rfl,(blk_cell hb5.1 0).trans rfl,(blk_cell hb5.1 2).trans rfl,(blk_cell hb5.1 8).trans rfl,(blk_cell hb5.1 9).trans rfl⟩ (fun hHeld=>?_)
 clear hK K
 refine norm_ (a':=?_) ?_ ?_
 rotate_left
 ·show Act.put _ (some 49) _=_
  simp only [Act.put,List.setIfInBounds_toArray,List.set_cons_zero,List.set_cons_succ,i64_w,i32_w]
  rfl
 refine pure_ (i:=39) (N:=some 50) (v:=?_) (a':=?_) #[true,true,true,true,true,true,true,true,true,true,true,true,true,true,true,true,true,true,true,true,true,true,true,true,true,true,true,true,true,true,true,true,true,true,true,true,true,true,true,true,false,false] rfl rfl (by kernel_rfl) (fun _ _ _ h=>h) (Or.inl ⟨by rfl,?_⟩) ?_ ?_
 rotate_left
 ·intro w'
  go_simp
  with_reducible rfl
 rotate_left
 ·simp only [Act.put,List.setIfInBounds_toArray,List.set_cons_zero,List.set_cons_succ,i64_w,i32_w]
  rfl
 refine pure_ (i:=40) (N:=some 51) (v:=?_) (a':=?_) #[true,true,true,true,true,true,true,true,true,true,true,true,true,true,true,true,true,true,true,true,true,true,true,true,true,true,true,true,true,true,true,true,true,true,true,true,true,true,true,true,true,false] rfl rfl (by kernel_rfl) (fun _ _ _ h=>h) (Or.inl ⟨by rfl,?_⟩) ?_ ?_
 rotate_left
 ·intro w'
  go_simp
  with_reducible rfl
 rotate_left
 ·simp only [Act.put,List.setIfInBounds_toArray,List.set_cons_zero,List.set_cons_succ,i64_w,i32_w]
  rfl
 refine last_ (i:=41) (N:=none) #[true,true,true,true,true,true,true,true,true,true,true,true,true,true,true,true,true,true,true,true,true,true,true,true,true,true,true,true,true,true,true,true,true,true,true,true,true,true,true,true,true,true] rfl rfl (by kernel_rfl) (by decide) (fun K hK=>?_)
 refine skip_ (w1:=?_) (by rfl) rfl ?_ ?_
 rotate_left
 ·go_simp
  rfl
 refine hK.out _ _ ?_
 clear hK K
 refine done_ (by kernel_rfl) ?_
 go_wp2_with fail
 go_ret
 have hcoreJ:=LIMJ.out _ _ HJ.out
 have hnk:NodesRow w4 o4 0 (.slice A2 rs0.length c2) S.ks:=⟨rs0,HKJ.out,HM0.out,fun r hr=>(HI0.out r hr).fr HJ.out.kp (fun h=>h)⟩
 have hmk:MarkOk w4 o4 ⟨S.ns.length,S.L.length,S.t.length,⟨A2,rs0.length,c2⟩,⟨A4,S.todo.length,c4⟩,S.dirty⟩ (newMk S):=⟨rfl,rfl,rfl,rfl,hnk,HTJ.out⟩
 have hsn:=MarksRow.snoc HLM.out (fun i r m h1 h2=>(HMM.out i r m h1 h2).fr HJ.out.kp (fun h=>h)) HR5.out kp5.out (by omega) (hmk.fr kp5.out (by omega))
 have hcore:=hcoreJ.onMarks kp5.out hsn
 have hob:GraphM b (o4.from_ w4.heap.size (b+20) cb):=by rw [Own.from_lt (blk_lt hcoreJ.blk.1),hcoreJ.blk.2];unfold GraphM;omega
 have hf:=(f5.out.mono (M':=GraphM b) (fun t h=>by subst h;unfold GraphM;omega)).setCell ⟨cb,10,none⟩ (.slice A5 (rsm.length+1) c5) (.inl hob)
 have hob2:o4.from_ w4.heap.size (b+20) cb=b+1:=by rw [Own.from_lt (blk_lt hcoreJ.blk.1),hcoreJ.blk.2]
 have kg:Kp (fun x=>x=b+20∨x=b+1) w4 o4 (w5.setCell ⟨cb,10,none⟩ (.slice A5 (rsm.length+1) c5)) (o4.from_ w4.heap.size (b+20)):=(kp5.out.mono (fun _ h=>.inl h)).setCell _ _ (.inl (.inr hob2))
 have hgr:=(H1.out.fr HJ.out.kp (fun h=>h)).fr kg (by omega)
 have hG:GraphAt b (w5.setCell ⟨cb,10,none⟩ (.slice A5 (rsm.length+1) c5)) (o4.from_ w4.heap.size (b+20)) g { S with ms:=S.ms++[newMk S] }:=⟨cb,_,hgr,hcore⟩
 have hF:=(HJ.out.mono (M':=GraphM b) (fun _ h=>h.elim)).trans hf
 refine ⟨?_,_,hG,hF⟩
 first | rfl | (rw [HLM.out];rfl) | (rw [← HLM.out];rfl)
end Go.Proofs.YtjckhhecnebmmaaGreatDoor.TU
end

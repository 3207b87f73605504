/- Steps towards the law TopUndoes; words printed by the kit, and printed texts, are cut to what is used, and spaces are left out. No condition. -/
import Derived.Test.YtjckhhecnebmmaaGreatDoorZ32
import Derived.Test.YtjckhhecnebmmaaGreatDoorZ4
set_option linter.unusedVariables false
set_option linter.unusedSimpArgs false
section
namespace Go.Proofs.YtjckhhecnebmmaaGreatDoor.TU
open Go.RowKit Go.Proofs.YtjckhhecnebmmaaGreatDoorW.PrintWords Go.Proofs.YtjckhhecnebmmaaGreatDoorW.PrintLast Go.Proofs.YtjckhhecnebmmaaGreatDoorW.PrintMore Go.Proofs.YtjckhhecnebmmaaGreatDoor.QAll
attribute [local go_sem] max2_int min2_int max_two min_two max_three min_three max_four min_four
set_option linter.unusedVariables false
def Rt (p:List Int) (a:Int):Prop:=0≤a∧a < p.length∧rd p a=a
theorem fnd_of {p:List Int} {x:Int} (h0:0≤x) (h1:x < p.length):fnd p x=rt p x:=by unfold fnd;rw [if_pos (inB_yes h0 h1)]
theorem fnd_self {p:List Int} {a:Int} (h:Rt p a):fnd p a=a:=by rw [fnd_of h.1 h.2.1,rt_end h.2.2]
theorem fnd_step {p:List Int} (hW:Well p) {x:Int} (h0:0≤x) (h1:x < p.length) (e:¬ rd p x=x):fnd p x=fnd p (rd p x):=by
 have hw:=hW x h0 h1
 rw [fnd_of h0 h1,fnd_of hw.1 (by omega),rt_step hW h0 h1 e]
theorem fnd_rt {p:List Int} (hW:Well p):∀ (n:Nat) (x:Int),x.toNat≤n→0≤x→x < p.length→Rt p (fnd p x)∧fnd p x≤x:=by
 intro n
 induction n with
 | zero =>
  intro x hn h0 h1
  have hx:x=0:=by omega
  have hw:=hW x h0 h1
  have h:Rt p x:=⟨h0,h1,by omega⟩
  rw [fnd_self h]
  exact ⟨h,Int.le_refl _⟩
 | succ n ih =>
  intro x hn h0 h1
  by_cases e:rd p x=x
  ·have h:Rt p x:=⟨h0,h1,e⟩
   rw [fnd_self h]
   exact ⟨h,Int.le_refl _⟩
  ·have hw:=hW x h0 h1
   rw [fnd_step hW h0 h1 e]
   have:=ih (rd p x) (by omega) hw.1 (by omega)
   exact ⟨this.1,by omega⟩
theorem fnd_root {p:List Int} (hW:Well p) {x:Int} (h0:0≤x) (h1:x < p.length):Rt p (fnd p x):=(fnd_rt hW x.toNat x (Nat.le_refl _) h0 h1).1
theorem fnd_low {p:List Int} (hW:Well p) {x:Int} (h0:0≤x) (h1:x < p.length):fnd p x≤x:=(fnd_rt hW x.toNat x (Nat.le_refl _) h0 h1).2
theorem fnd_fnd {p:List Int} (hW:Well p) {x:Int} (h0:0≤x) (h1:x < p.length):fnd p (fnd p x)=fnd p x:=fnd_self (fnd_root hW h0 h1)
theorem rd_app {p:List Int} {x:Int} (v:Int) (h0:0≤x) (h1:x < p.length):rd (p++[v]) x=rd p x:=by
 unfold rd
 rw [List.getD_eq_getElem?_getD,List.getD_eq_getElem?_getD,List.getElem?_append_left (by omega)]
theorem rd_new (p:List Int) (v:Int):rd (p++[v]) (p.length:Int)=v:=by
 unfold rd
 rw [Int.toNat_natCast,List.getD_eq_getElem?_getD,List.getElem?_append_right (Nat.le_refl _),Nat.sub_self]
 rfl
theorem rt_new (p:List Int):Rt (p++[(p.length:Int)]) p.length:=⟨by omega,by rw [List.length_append,List.length_singleton];omega,rd_new p _⟩
theorem rt_app {p:List Int} {a:Int} (h1:a < p.length):Rt (p++[(p.length:Int)]) a↔Rt p a:=by
 constructor
 ·rintro ⟨h0,_,h⟩
  rw [rd_app _ h0 h1]at h
  exact ⟨h0,h1,h⟩
 ·rintro ⟨h0,_,h⟩
  exact ⟨h0,by simp;omega,by rw [rd_app _ h0 h1];exact h⟩
theorem fnd_app {p:List Int} (hW:Well p):∀ (n:Nat) (x:Int),x.toNat≤n→0≤x→x < p.length→fnd (p++[(p.length:Int)]) x=fnd p x:=by
 have hW2:=well_snoc hW
 intro n
 induction n with
 | zero =>
  intro x hn h0 h1
  have hw:=hW x h0 h1
  have h:Rt p x:=⟨h0,h1,by omega⟩
  rw [fnd_self h,fnd_self ((rt_app h1).2 h)]
 | succ n ih =>
  intro x hn h0 h1
  by_cases e:rd p x=x
  ·have h:Rt p x:=⟨h0,h1,e⟩
   rw [fnd_self h,fnd_self ((rt_app h1).2 h)]
  ·have hw:=hW x h0 h1
   rw [fnd_step hW h0 h1 e,fnd_step hW2 h0 (by simp;omega) (by rw [rd_app _ h0 h1];exact e),rd_app _ h0 h1]
   exact ih _ (by omega) hw.1 (by omega)
theorem rd_set {p:List Int} {hi lo x:Int} (h0:0≤hi) (h1:hi < p.length) (hx:0≤x):rd (p.set hi.toNat lo) x=if x=hi then lo else rd p x:=by
 unfold rd
 rw [List.getD_eq_getElem?_getD,List.getD_eq_getElem?_getD]
 by_cases e:x=hi
 ·rw [if_pos e,e,List.getElem?_set_self (by omega)]
  rfl
 ·rw [if_neg e,List.getElem?_set_ne (by omega)]
section
variable {p:List Int} {hi lo:Int}
theorem well_set (hW:Well p) (hh:Rt p hi) (hl:Rt p lo) (hlt:lo < hi):Well (p.set hi.toNat lo):=by
 intro x h0 h1
 rw [List.length_set]at h1
 rw [rd_set hh.1 hh.2.1 h0]
 split
 ·have:=hl.1;omega
 ·exact hW x h0 h1
theorem fnd_set (hW:Well p) (hh:Rt p hi) (hl:Rt p lo) (hlt:lo < hi):∀ (n:Nat) (x:Int),x.toNat≤n→0≤x→x < p.length→fnd (p.set hi.toNat lo) x=if fnd p x=hi then lo else fnd p x:=by
 have hW2:=well_set hW hh hl hlt
 have hlo:Rt (p.set hi.toNat lo) lo:=⟨hl.1,by rw [List.length_set];exact hl.2.1,by rw [rd_set hh.1 hh.2.1 hl.1,if_neg (by omega)];exact hl.2.2⟩
 intro n
 induction n with
 | zero =>
  intro x hn h0 h1
  have hw:=hW x h0 h1
  have h:Rt p x:=⟨h0,h1,by omega⟩
  rw [fnd_self h]
  have hne:x≠hi:=by have:=hl.1;omega
  rw [if_neg hne]
  exact fnd_self ⟨h0,by rw [List.length_set];exact h1,by rw [rd_set hh.1 hh.2.1 h0,if_neg hne];exact h.2.2⟩
 | succ n ih =>
  intro x hn h0 h1
  by_cases e:rd p x=x
  ·have h:Rt p x:=⟨h0,h1,e⟩
   rw [fnd_self h]
   by_cases hx:x=hi
   ·rw [if_pos hx]
    have hr:rd (p.set hi.toNat lo) x=lo:=by rw [rd_set hh.1 hh.2.1 h0,if_pos hx]
    rw [fnd_step hW2 h0 (by rw [List.length_set];exact h1) (by rw [hr];omega),hr]
    exact fnd_self hlo
   ·rw [if_neg hx]
    exact fnd_self ⟨h0,by rw [List.length_set];exact h1,by rw [rd_set hh.1 hh.2.1 h0,if_neg hx];exact e⟩
  ·have hw:=hW x h0 h1
   have hx:x≠hi:=fun h=>e (by rw [h];exact hh.2.2)
   have hr:rd (p.set hi.toNat lo) x=rd p x:=by rw [rd_set hh.1 hh.2.1 h0,if_neg hx]
   rw [fnd_step hW h0 h1 e,fnd_step hW2 h0 (by rw [List.length_set];exact h1) (by rw [hr];exact e),hr]
   exact ih _ (by omega) hw.1 (by omega)
end
def cntU (f:Nat→Bool):Nat→Nat
 | 0=>0
 | n+1=>cntU f n+(if f n=true then 1 else 0)
def roots (p:List Int):Nat:=cntU (fun i=>decide (rd p (i:Int)=(i:Int))) p.length
theorem cntU_congr {f g:Nat→Bool}:∀ n,(∀ i,i < n→f i=g i)→cntU f n=cntU g n:=by
 intro n
 induction n with
 | zero=>intro _;rfl
 | succ n ih=>intro h;show cntU f n+_=cntU g n+_;rw [ih (fun i hi=>h i (by omega)),h n (by omega)]
theorem cntU_one {f g:Nat→Bool}:∀ (n x:Nat),x < n→f x=true→g x=false→(∀ i,i≠x→f i=g i)→cntU f n=cntU g n+1:=by
 intro n
 induction n with
 | zero=>intro x h;omega
 | succ n ih =>
  intro x h hf hg he
  show cntU f n+(if f n=true then 1 else 0)=cntU g n+(if g n=true then 1 else 0)+1
  by_cases hx:x=n
  ·subst hx
   rw [cntU_congr x (fun i hi=>he i (by omega)),hf,hg]
   simp
  ·rw [ih x (by omega) hf hg he,he n (fun h=>hx h.symm)]
   omega
theorem roots_app (p:List Int):roots (p++[(p.length:Int)])=roots p+1:=by
 unfold roots
 rw [List.length_append,List.length_singleton]
 show cntU _ p.length+(if decide (rd (p++[(p.length:Int)]) ((p.length:Nat):Int)=((p.length:Nat):Int))=true then 1 else 0)=_
 rw [rd_new,if_pos (by simp)]
 rw [cntU_congr p.length (fun i hi=>by rw [rd_app _ (by omega) (by omega)])]
theorem roots_set {p:List Int} {hi lo:Int} (hh:Rt p hi) (hlt:lo < hi):roots p=roots (p.set hi.toNat lo)+1:=by
 unfold roots
 rw [List.length_set]
 have h0:=hh.1
 have h1:=hh.2.1
 refine cntU_one p.length hi.toNat (by omega) ?_ ?_ (fun i hi'=>?_)
 ·have:((hi.toNat:Nat):Int)=hi:=by omega
  rw [this]
  simpa using hh.2.2
 ·have:((hi.toNat:Nat):Int)=hi:=by omega
  rw [this,rd_set h0 h1 h0,if_pos rfl]
  simp
  omega
 ·rw [rd_set h0 h1 (by omega),if_neg (by omega)]
theorem mx_mn (a b:Int):(mx a b=a∧mn a b=b∧b≤a)∨(mx a b=b∧mn a b=a∧a≤b):=by
 unfold mx mn
 split <;> split <;> omega
theorem mx_lt {a b:Int} (h:a≠b):mn a b < mx a b:=by
 have:=mx_mn a b
 omega
theorem mx_cases {P:Int→Prop} {a b:Int} (ha:P a) (hb:P b):P (mx a b)∧P (mn a b):=by
 rcases mx_mn a b with ⟨h1,h2,_⟩ | ⟨h1,h2,_⟩
 ·rw [h1,h2];exact ⟨ha,hb⟩
 ·rw [h1,h2];exact ⟨hb,ha⟩
end Go.Proofs.YtjckhhecnebmmaaGreatDoor.TU
end
section
namespace Go.Proofs.YtjckhhecnebmmaaGreatDoor.TU
open Go.RowKit Go.Proofs.YtjckhhecnebmmaaGreatDoorW.PrintWords Go.Proofs.YtjckhhecnebmmaaGreatDoorW.PrintLast Go.Proofs.YtjckhhecnebmmaaGreatDoorW.PrintMore Go.Proofs.YtjckhhecnebmmaaGreatDoor.QAll
attribute [local go_sem] max2_int min2_int max_two min_two max_three min_three max_four min_four
set_option linter.unusedVariables false
def numB (c:UInt8):Prop:=c≠44∧c≠58
theorem ofNat_inj {a b:Nat} (ha:a < 256) (hb:b < 256) (h:UInt8.ofNat a=UInt8.ofNat b):a=b:=by
 have:=congrArg UInt8.toNat h
 simp only [UInt8.toNat_ofNat']at this
 omega
theorem dec_num (u:Nat):∀ c∈Lib.decDigits u,numB c∧c≠45:=by
 induction u using Nat.strongRecOn with
 | _ u ih =>
  intro c hc
  have key:∀ d:Nat,d < 10→numB (UInt8.ofNat (48+d))∧UInt8.ofNat (48+d)≠45:=by
   intro d hd
   have h1:UInt8.ofNat (48+d)≠44:=fun h=>by have:=ofNat_inj (a:=48+d) (b:=44) (by omega) (by omega) h;omega
   have h2:UInt8.ofNat (48+d)≠58:=fun h=>by have:=ofNat_inj (a:=48+d) (b:=58) (by omega) (by omega) h;omega
   have h3:UInt8.ofNat (48+d)≠45:=fun h=>by have:=ofNat_inj (a:=48+d) (b:=45) (by omega) (by omega) h;omega
   exact ⟨⟨h1,h2⟩,h3⟩
  rw [Lib.decDigits]at hc
  split at hc
  ·rw [List.mem_singleton]at hc
   rw [hc]
   exact key u (by omega)
  ·rcases List.mem_append.1 hc with h | h
   ·exact ih (u / 10) (by omega) c h
   ·rw [List.mem_singleton]at h
    rw [h]
    exact key (u % 10) (by omega)
theorem dec_ne (u:Nat):Lib.decDigits u≠[]:=by
 rw [Lib.decDigits]
 split
 ·simp
 ·simp
theorem dec_eq (u:Nat):Lib.decDigits u=if u < 10 then [UInt8.ofNat (48+u)]else Lib.decDigits (u / 10)++[UInt8.ofNat (48+u % 10)]:=by
 rw [Lib.decDigits]
 split
 ·rfl
 ·rfl
theorem dec_inj:∀ (u v:Nat),Lib.decDigits u=Lib.decDigits v→u=v:=by
 intro u
 induction u using Nat.strongRecOn with
 | _ u ih =>
  intro v h
  rw [dec_eq u,dec_eq v]at h
  split at h
  ·split at h
   ·rename_i h1 h2
    injection h with h
    have:=ofNat_inj (by omega) (by omega) h
    omega
   ·rename_i h1 h2
    exfalso
    have hl:=congrArg List.length h
    have:=List.length_pos_iff.2 (dec_ne (v / 10))
    simp only [List.length_append,List.length_singleton]at hl
    omega
  ·split at h
   ·rename_i h1 h2
    exfalso
    have hl:=congrArg List.length h
    have:=List.length_pos_iff.2 (dec_ne (u / 10))
    simp only [List.length_append,List.length_singleton]at hl
    omega
   ·rename_i h1 h2
    obtain ⟨e1,e2⟩:=List.append_inj' h rfl
    injection e2 with e2
    have h3:=ofNat_inj (by omega) (by omega) e2
    have h4:=ih (u / 10) (by omega) (v / 10) e1
    omega
theorem itoa_num (n:Int):∀ c∈Lib.itoa n,numB c:=by
 intro c hc
 unfold Lib.itoa at hc
 split at hc
 ·rcases List.mem_cons.1 hc with rfl | h
  ·exact ⟨by decide,by decide⟩
  ·exact (dec_num _ c h).1
 ·exact (dec_num _ c hc).1
theorem itoa_inj (n m:Int) (h:Lib.itoa n=Lib.itoa m):n=m:=by
 unfold Lib.itoa at h
 split at h
 ·split at h
  ·injection h with _ h
   have:=dec_inj _ _ h
   omega
  ·exfalso
   exact (dec_num m.toNat 45 (by rw [← h];exact List.mem_cons_self ..)).2 rfl
 ·split at h
  ·exfalso
   exact (dec_num n.toNat 45 (by rw [h];exact List.mem_cons_self ..)).2 rfl
  ·have:=dec_inj _ _ h
   omega
theorem split_mark {P:UInt8→Prop} {c:UInt8} (hc:¬ P c):∀ (a b x y:List UInt8),(∀ u∈a,P u)→(∀ u∈b,P u)→a++c :: x=b++c :: y→a=b∧x=y:=by
 intro a
 induction a with
 | nil =>
  intro b x y _ hb h
  cases b with
  | nil=>injection h with _ h;exact ⟨rfl,h⟩
  | cons d b=>injection h with h _;exact absurd (hb d (List.mem_cons_self ..)) (by rw [← h];exact hc)
 | cons e a ih =>
  intro b x y ha hb h
  cases b with
  | nil=>injection h with h _;exact absurd (ha e (List.mem_cons_self ..)) (by rw [h];exact hc)
  | cons d b =>
   injection h with h1 h2
   obtain ⟨h3,h4⟩:=ih b x y (fun u hu=>ha u (List.mem_cons_of_mem _ hu)) (fun u hu=>hb u (List.mem_cons_of_mem _ hu)) h2
   exact ⟨by rw [h1,h3],h4⟩
theorem num44:¬ numB 44:=fun h=>h.1 rfl
theorem num58:¬ numB 58:=fun h=>h.2 rfl
theorem split_num (a b:List UInt8) (x y:List UInt8) (ha:∀ u∈a,numB u) (hb:∀ u∈b,numB u) (hx:∃ c r,x=c :: r∧¬ numB c) (hy:∃ c r,y=c :: r∧¬ numB c) (h:a++x=b++y):a=b∧x=y:=by
 obtain ⟨c,r,rfl,hc⟩:=hx
 obtain ⟨d,q,rfl,hd⟩:=hy
 induction a generalizing b with
 | nil =>
  cases b with
  | nil=>exact ⟨rfl,h⟩
  | cons e b=>injection h with h _;exact absurd (hb e (List.mem_cons_self ..)) (by rw [← h];exact hc)
 | cons e a ih =>
  cases b with
  | nil=>injection h with h _;exact absurd (ha e (List.mem_cons_self ..)) (by rw [h];exact hd)
  | cons f b =>
   injection h with h1 h2
   obtain ⟨h3,h4⟩:=ih b (fun u hu=>ha u (List.mem_cons_of_mem _ hu)) (fun u hu=>hb u (List.mem_cons_of_mem _ hu)) h2
   exact ⟨by rw [h1,h3],h4⟩
theorem arg_head (l:List Int) (x:List UInt8):∃ c r,argBytes l++58 :: x=c :: r∧¬ numB c:=by
 cases l with
 | nil=>exact ⟨58,x,rfl,num58⟩
 | cons a l=>exact ⟨44,_,rfl,num44⟩
theorem argBytes_inj:∀ (l m:List Int) (x y:List UInt8),argBytes l++58 :: x=argBytes m++58 :: y→l=m∧x=y:=by
 intro l
 induction l with
 | nil =>
  intro m x y h
  cases m with
  | nil=>injection h with _ h;exact ⟨rfl,h⟩
  | cons a m=>injection h with h _;cases h
 | cons a l ih =>
  intro m x y h
  cases m with
  | nil=>injection h with h _;cases h
  | cons b m =>
   have h:(44 :: Lib.itoa a++argBytes l)++58 :: x=(44 :: Lib.itoa b++argBytes m)++58 :: y:=h
   rw [List.append_assoc,List.append_assoc]at h
   injection h with _ h
   obtain ⟨h1,h2⟩:=split_num _ _ _ _ (itoa_num a) (itoa_num b) (arg_head l x) (arg_head m y) h
   obtain ⟨h3,h4⟩:=ih m x y h2
   exact ⟨by rw [itoa_inj _ _ h1,h3],h4⟩
theorem keyBytes_inj (n m:Nd) (h:keyBytes n=keyBytes m):n=m:=by
 unfold keyBytes at h
 simp only [List.append_assoc,List.singleton_append]at h
 obtain ⟨h1,h⟩:=split_mark (P:=numB) num44 _ _ _ _ (itoa_num _) (itoa_num _) h
 obtain ⟨h2,h⟩:=split_mark (P:=numB) num44 _ _ _ _ (itoa_num _) (itoa_num _) h
 obtain ⟨h3,h⟩:=split_num _ _ _ _ (fun c hc=>(dec_num _ c hc).1) (fun c hc=>(dec_num _ c hc).1) (arg_head _ _) (arg_head _ _) h
 obtain ⟨h4,h5⟩:=argBytes_inj _ _ _ _ h
 obtain ⟨op,width,val,name,args⟩:=n
 obtain ⟨op',width',val',name',args'⟩:=m
 simp only at h1 h2 h3 h4 h5
 obtain rfl:=itoa_inj _ _ h1
 obtain rfl:=itoa_inj _ _ h2
 obtain rfl:=dec_inj _ _ h3
 subst h4
 have:name=name':=by
  cases name
  cases name'
  congr 1
  exact Array.ext' h5
 rw [this]
theorem keyStr_inj {n m:Nd} (h:keyStr n=keyStr m):n=m:=by
 apply keyBytes_inj
 unfold keyStr at h
 have h2:=congrArg (fun b:ByteArray=>b.data.toList) h
 simp only [strOfNums_data,List.map_map]at h2
 have e:∀ l:List UInt8,l.map ((fun n:Int=>UInt8.ofNat n.toNat) ∘ fun b:UInt8=>(b.toNat:Int))=l:=by
  intro l
  induction l with
  | nil=>rfl
  | cons c l ih=>rw [List.map_cons,ih];simp
 rw [e,e]at h2
 exact h2
end Go.Proofs.YtjckhhecnebmmaaGreatDoor.TU
end
section
namespace Go.Proofs.YtjckhhecnebmmaaGreatDoor.TU
open Go.RowKit Go.Proofs.YtjckhhecnebmmaaGreatDoorW.PrintWords Go.Proofs.YtjckhhecnebmmaaGreatDoorW.PrintLast Go.Proofs.YtjckhhecnebmmaaGreatDoorW.PrintMore Go.Proofs.YtjckhhecnebmmaaGreatDoor.QAll
attribute [local go_sem] max2_int min2_int max_two min_two max_three min_three max_four min_four
set_option linter.unusedVariables false
structure IC (S:St):Prop where
 hp:S.p.length=S.ns.length
 hk:S.ks.length=S.ns.length
 hu:S.us.length=S.ns.length
 well:Well S.p
 no:∀ n∈S.ns,n.Ok
 ain:∀ (i:Nat) (n:Nd),S.ns[i]?=some n→∀ a∈n.args,0≤a∧a < i
 vok:∀ n∈S.ns,n.op=1→n.val=0∧n.args=[]
 ex:∀ (i:Nat) (n:Nd),S.ns[i]?=some n→S.ex (keyStr n)=some (i:Int)
 exn:∀ k id,S.ex k=some id→∃ n,0≤id∧S.ns[id.toNat]?=some n∧keyStr n=k
 vs:∀ l v,S.vs l=some v→∃ n∈S.ns,n.op=1∧l=lits_ n.name∧v=.int .i64 n.width
 us:∀ u∈S.us,u.length≤S.ns.length∧∀ x∈u,0≤x∧x < S.ns.length
 ko:∀ n∈S.ks,n.Ok
 kin:∀ k∈S.ks,∀ a∈k.args,0≤a∧a < S.ns.length
 kc:∀ (i:Nat) (k n:Nd),S.ks[i]?=some k→S.ns[i]?=some n→canonN S.p k=canonN S.p n
 todo:S.todo.length+roots S.p≤S.ns.length
 tl:S.t.length+roots S.p≤2 * S.ns.length
 hL:S.L.length≤800
 len:S.ns.length≤400
structure IT (p:List Int) (ks:List Nd) (tab:ByteArray→Option Int):Prop where
 c3:∀ s y,tab s=some y→0≤y∧∃ k,ks[y.toNat]?=some k∧keyStr k=s
 j:∀ (i:Nat) (k:Nd),ks[i]?=some k→(∀ a∈k.args,Rt p a)→∃ y,tab (keyStr k)=some y∧fnd p y=fnd p (i:Int)
structure Inv (S:St):Prop where
 ic:IC S
 it:IT S.p S.ks S.tab
theorem canon_rt {p:List Int} {n:Nd} (h:∀ a∈n.args,Rt p a):canonN p n=n:=by
 unfold canonN
 have:n.args.map (fnd p)=n.args:=by
  exact (List.map_congr_left (g:=id) (fun a ha=>fnd_self (h a ha))).trans (List.map_id _)
 rw [this]
theorem canon_canon {p p':List Int} {n:Nd} (h:∀ a∈n.args,fnd p' (fnd p a)=fnd p' a):canonN p' (canonN p n)=canonN p' n:=by
 unfold canonN
 simp only [List.map_map]
 congr 1
 exact List.map_congr_left h
theorem canon_roots {p:List Int} (hW:Well p) {n:Nd} (h:∀ a∈n.args,0≤a∧a < p.length):∀ a∈(canonN p n).args,Rt p a:=by
 intro a ha
 obtain ⟨x,hx,rfl⟩:=List.mem_map.1 ha
 exact fnd_root hW (h x hx).1 (h x hx).2
theorem getElem_lt {α:Type} {l:List α} {i:Nat} {x:α} (h:l[i]?=some x):i < l.length:=by
 rcases Nat.lt_or_ge i l.length with h' | h'
 ·exact h'
 ·rw [List.getElem?_eq_none h']at h;cases h
def setS (S:St) (hi lo:Int):St:={ S with p:=S.p.set hi.toNat lo,t:=S.t++[⟨false,hi⟩] }
theorem fnd_set' {p:List Int} {hi lo x:Int} (hW:Well p) (hh:Rt p hi) (hl:Rt p lo) (hlt:lo < hi) (h0:0≤x) (h1:x < p.length):fnd (p.set hi.toNat lo) x=if fnd p x=hi then lo else fnd p x:=fnd_set hW hh hl hlt x.toNat x (Nat.le_refl _) h0 h1
theorem fnd_set_fnd {p:List Int} {hi lo x:Int} (hW:Well p) (hh:Rt p hi) (hl:Rt p lo) (hlt:lo < hi) (h0:0≤x) (h1:x < p.length):fnd (p.set hi.toNat lo) (fnd p x)=fnd (p.set hi.toNat lo) x:=by
 have hr:=fnd_root hW h0 h1
 rw [fnd_set' hW hh hl hlt hr.1 hr.2.1,fnd_set' hW hh hl hlt h0 h1,fnd_self hr]
theorem IC.set {S:St} (h:IC S) {hi lo:Int} (hh:Rt S.p hi) (hl:Rt S.p lo) (hlt:lo < hi):IC (setS S hi lo)∧S.todo.length+1+roots (setS S hi lo).p≤S.ns.length:=by
 have hr:=roots_set hh hlt
 have ht:=h.todo
 have htl:=h.tl
 have hcc:∀ n:Nd,(∀ a∈n.args,0≤a∧a < S.ns.length)→canonN (S.p.set hi.toNat lo) (canonN S.p n)=canonN (S.p.set hi.toNat lo) n:=fun n hn=>canon_canon (fun a ha=>fnd_set_fnd h.well hh hl hlt (hn a ha).1 (by rw [h.hp];exact (hn a ha).2))
 refine ⟨{ h with hp:=?_,well:=well_set h.well hh hl hlt,kc:=fun i k n hk hn=>?_,todo:=?_,tl:=?_ },?_⟩
 ·show (S.p.set hi.toNat lo).length=_
  rw [List.length_set];exact h.hp
 ·have h1:=h.kc i k n hk hn
  have h2:=hcc k (h.kin k (List.mem_of_getElem? hk))
  have h3:=hcc n (fun a ha=>by have:=h.ain i n hn a ha;have:=getElem_lt (show S.ns[i]?=some n from hn);omega)
  show canonN (S.p.set hi.toNat lo) k=canonN (S.p.set hi.toNat lo) n
  rw [← h2,← h3,h1]
 ·show S.todo.length+roots (S.p.set hi.toNat lo)≤S.ns.length
  omega
 ·show (S.t++[_]).length+roots (S.p.set hi.toNat lo)≤2 * S.ns.length
  rw [List.length_append,List.length_singleton]
  omega
 ·show S.todo.length+1+roots (S.p.set hi.toNat lo)≤S.ns.length
  omega
theorem IT.join {p:List Int} {ks:List Nd} {tab:ByteArray→Option Int} (hW:Well p) (hk:ks.length=p.length) (c3:∀ s y,tab s=some y→0≤y∧∃ k,ks[y.toNat]?=some k∧keyStr k=s) (x:Nat)
  (j:∀ (i:Nat) (k:Nd),i≠x→ks[i]?=some k→(∀ a∈k.args,Rt p a)→∃ y,tab (keyStr k)=some y∧fnd p y=fnd p (i:Int))
  {hi lo y:Int} (jx:∀ k,ks[x]?=some k→tab (keyStr k)=some y∧((fnd p y=hi∧fnd p (x:Int)=lo)∨(fnd p y=lo∧fnd p (x:Int)=hi))) (hh:Rt p hi) (hl:Rt p lo) (hlt:lo < hi) :
  IT (p.set hi.toNat lo) ks tab:=by
 refine ⟨c3,fun i k hki hr=>?_⟩
 have hr':∀ a∈k.args,Rt p a:=fun a ha=>by
  obtain ⟨h0,h1,h2⟩:=hr a ha
  rw [List.length_set]at h1
  rw [rd_set hh.1 hh.2.1 h0]at h2
  split at h2
  ·omega
  ·exact ⟨h0,h1,h2⟩
 have hil:=getElem_lt hki
 have rng:∀ s y,tab s=some y→0≤y∧y < p.length:=fun s y h=>by
  obtain ⟨h0,k,hk',_⟩:=c3 s y h
  have:=getElem_lt hk'
  exact ⟨h0,by omega⟩
 by_cases hx:i=x
 ·subst hx
  obtain ⟨hy,hxy⟩:=jx k hki
  refine ⟨y,hy,?_⟩
  rw [fnd_set' hW hh hl hlt (rng _ _ hy).1 (rng _ _ hy).2,fnd_set' hW hh hl hlt (by omega) (by omega)]
  rcases hxy with ⟨h1,h2⟩ | ⟨h1,h2⟩
  ·rw [h1,h2,if_pos rfl,if_neg (by omega)]
  ·rw [h1,h2,if_pos rfl,if_neg (by omega)]
 ·obtain ⟨z,hz,hf⟩:=j i k hx hki hr'
  refine ⟨z,hz,?_⟩
  rw [fnd_set' hW hh hl hlt (rng _ _ hz).1 (rng _ _ hz).2,fnd_set' hW hh hl hlt (by omega) (by omega),hf]
theorem IT.set {p:List Int} {ks:List Nd} {tab:ByteArray→Option Int} (h:IT p ks tab) (hW:Well p) (hk:ks.length=p.length) {hi lo:Int} (hh:Rt p hi) (hl:Rt p lo) (hlt:lo < hi):IT (p.set hi.toNat lo) ks tab :=
 IT.join hW hk h.c3 ks.length (fun i k _ hki hr=>h.j i k hki hr) (y:=hi) (fun k hk=>by rw [List.getElem?_eq_none (Nat.le_refl _)]at hk;cases hk) hh hl hlt
theorem IC.withTodo {S:St} (h:IC S) (l:List Int) (hl:l.length+roots S.p≤S.ns.length):IC { S with todo:=l }:={ h with todo:=hl }
theorem Inv.joinS {S:St} {x y:Int} (hi:Inv S) (hx:0≤x∧x < S.ns.length) (hy:0≤y∧y < S.ns.length) (hne:fnd S.p x≠fnd S.p y):Inv (joinS S x y):=by
 have h:=hi.ic
 have rx:=fnd_root h.well hx.1 (by rw [h.hp];exact hx.2)
 have ry:=fnd_root h.well hy.1 (by rw [h.hp];exact hy.2)
 obtain ⟨hh,hl⟩:=mx_cases (P:=Rt S.p) rx ry
 have hlt:=mx_lt hne
 obtain ⟨h1,h2⟩:=h.set hh hl hlt
 refine ⟨h1.withTodo _ ?_,hi.it.set h.well (by rw [h.hp,h.hk]) hh hl hlt⟩
 show (S.todo++[_]).length+roots (setS S _ _).p≤S.ns.length
 rw [List.length_append,List.length_singleton]
 exact h2
theorem keyOf_at {S:St} {x:Int} {n:Nd} (h:S.ns[x.toNat]?=some n):keyOfS S x=canonN S.p n:=by
 unfold keyOfS
 rw [List.getD_eq_getElem?_getD,h]
 rfl
theorem getD_at {l:List Nd} {x:Nat} {n:Nd} (h:l[x]?=some n):l.getD x zNd=n:=by
 rw [List.getD_eq_getElem?_getD,h]
 rfl
theorem IC.keys {S:St} (h:IC S) {x:Nat} {n:Nd} (hn:S.ns[x]?=some n) (T:ByteArray→Option Int) (N:Nat):IC { S with tab:=T,ks:=S.ks.set x (canonN S.p n),N:=N }:=by
 have hin:∀ a∈n.args,0≤a∧a < S.ns.length:=fun a ha=>by have:=h.ain x n hn a ha;have:=getElem_lt hn;omega
 refine { h with hk:=?_,ko:=fun k hk=>?_,kin:=fun k hk a ha=>?_,kc:=fun i k m hk hm=>?_ }
 ·show (S.ks.set x _).length=_
  rw [List.length_set];exact h.hk
 ·rcases List.mem_or_eq_of_mem_set hk with hk | rfl
  ·exact h.ko k hk
  ·have h1:=h.no n (List.mem_of_getElem? hn)
   refine ⟨h1.op,h1.width,h1.val,h1.name,fun a ha=>?_,by show (n.args.map _).length≤_;rw [List.length_map];exact h1.few⟩
   have hr:=canon_roots h.well (n:=n) (fun a ha=>by rw [h.hp];exact hin a ha) a ha
   have h3:=hr.1
   have h4:=hr.2.1
   rw [h.hp]at h4
   have:=h.len
   omega
 ·rcases List.mem_or_eq_of_mem_set hk with hk | rfl
  ·exact h.kin k hk a ha
  ·have hr:=canon_roots h.well (n:=n) (fun a ha=>by rw [h.hp];exact hin a ha) a ha
   exact ⟨hr.1,by have:=hr.2.1;rw [h.hp]at this;exact this⟩
 ·by_cases hx:i=x
  ·subst hx
   rw [List.getElem?_set_self (getElem_lt hk |> fun h=>by rwa [List.length_set]at h)]at hk
   injection hk with hk
   subst hk
   have hm':S.ns[i]?=some m:=hm
   rw [hn]at hm'
   injection hm' with hm'
   subst hm'
   exact canon_canon (fun a ha=>fnd_fnd h.well (hin a ha).1 (by rw [h.hp];exact (hin a ha).2))
  ·rw [List.getElem?_set_ne (by omega)]at hk
   exact h.kc i k m hk hm
theorem not_same {n m:Nd} (h:¬ sameB n m=true):n≠m:=fun e=>h (sameB_iff.2 e)
theorem Inv.repair {S:St} (hi:Inv S) {x:Int} (hx:0≤x∧x < S.ns.length):Inv (repairS S x).1:=by
 have h:=hi.ic
 have hxl:x.toNat < S.ns.length:=by omega
 obtain ⟨n,hn⟩:∃ n,S.ns[x.toNat]?=some n:=⟨_,List.getElem?_eq_getElem hxl⟩
 obtain ⟨k0,hk0⟩:∃ k,S.ks[x.toNat]?=some k:=⟨_,List.getElem?_eq_getElem (by rw [h.hk];exact hxl)⟩
 have hkey:=keyOf_at hn
 have hin:∀ a∈n.args,0≤a∧a < S.p.length:=fun a ha=>by have:=h.ain x.toNat n hn a ha;rw [h.hp];omega
 have hroots:=canon_roots h.well hin
 have hcc:=h.kc x.toNat k0 n hk0 hn
 have hxi:((x.toNat:Nat):Int)=x:=by omega
 have eN:∀ T:St,({ T with tab:=T.tab,ks:=T.ks,N:=T.N }:St)=T:=fun _=>rfl
 by_cases hs:sameB (canonN S.p n) k0=true
 ·have e:rekeyS S x=S:=by unfold rekeyS;rw [hkey,getD_at hk0,if_pos hs]
  have hk:canonN S.p n=k0:=sameB_iff.1 hs
  obtain ⟨y,hy,hf⟩:=hi.it.j x.toNat k0 hk0 (by rw [← hk];exact hroots)
  rw [hxi]at hf
  unfold repairS
  rw [e,hkey,hk,hy]
  simp only
  rw [if_pos hf]
  exact hi
 ·have hne:=not_same hs
  have e:rekeyS S x={ S with tab:=delT S.tab (keyStr k0),ks:=S.ks.set x.toNat (canonN S.p n) }:=by unfold rekeyS;rw [hkey,getD_at hk0,if_neg hs]
  have hold:¬ ∀ a∈k0.args,Rt S.p a:=fun hr=>hne (by rw [← hcc,canon_rt hr])
  have c3:∀ s y,delT S.tab (keyStr k0) s=some y→0≤y∧y≠x∧∃ k,(S.ks.set x.toNat (canonN S.p n))[y.toNat]?=some k∧keyStr k=s:=by
   intro s y hy
   unfold delT at hy
   split at hy
   ·cases hy
   ·rename_i hsn
    obtain ⟨h0,k,hk,hks⟩:=hi.it.c3 s y hy
    have hyx:y≠x:=by
     rintro rfl
     rw [hk0]at hk
     injection hk with hk
     subst hk
     exact hsn hks.symm
    exact ⟨h0,hyx,k,by rw [List.getElem?_set_ne (by omega)];exact hk,hks⟩
  have j:∀ (i:Nat) (k:Nd),i≠x.toNat→(S.ks.set x.toNat (canonN S.p n))[i]?=some k→(∀ a∈k.args,Rt S.p a)→∃ y,delT S.tab (keyStr k0) (keyStr k)=some y∧fnd S.p y=fnd S.p (i:Int):=by
   intro i k hix hk hr
   rw [List.getElem?_set_ne (by omega)]at hk
   obtain ⟨y,hy,hf⟩:=hi.it.j i k hk hr
   refine ⟨y,?_,hf⟩
   unfold delT
   rw [if_neg (fun hs=>hold (by rw [← keyStr_inj hs];exact hr))]
   exact hy
  have hlen:(S.ks.set x.toNat (canonN S.p n)).length=S.p.length:=by rw [List.length_set,h.hk,h.hp]
  have hself:(S.ks.set x.toNat (canonN S.p n))[x.toNat]?=some (canonN S.p n):=List.getElem?_set_self (by rw [h.hk];exact hxl)
  unfold repairS
  rw [e,hkey]
  cases ht:delT S.tab (keyStr k0) (keyStr (canonN S.p n))with
  | none =>
   simp only [ht]
   refine ⟨h.keys hn _ _,fun s y hy=>?_,fun i k hk hr=>?_⟩
   ·show 0≤y∧∃ k,(S.ks.set x.toNat (canonN S.p n))[y.toNat]?=some k∧keyStr k=s
    have hy:(if s=keyStr (canonN S.p n)then some x else delT S.tab (keyStr k0) s)=some y:=hy
    split at hy
    ·rename_i hs'
     injection hy with hy
     subst hy
     exact ⟨hx.1,_,hself,hs'.symm⟩
    ·obtain ⟨h0,_,h3⟩:=c3 s y hy
     exact ⟨h0,h3⟩
   ·show ∃ y,(if keyStr k=keyStr (canonN S.p n)then some x else delT S.tab (keyStr k0) (keyStr k))=some y∧_
    by_cases hix:i=x.toNat
    ·subst hix
     have hk:(S.ks.set x.toNat (canonN S.p n))[x.toNat]?=some k:=hk
     rw [hself]at hk
     injection hk with hk
     subst hk
     exact ⟨x,if_pos rfl,by rw [hxi]⟩
    ·obtain ⟨y,hy,hf⟩:=j i k hix hk hr
     refine ⟨y,?_,hf⟩
     rw [if_neg (fun hs'=>?_)]
     ·exact hy
     ·rw [hs',ht]at hy
      cases hy
  | some y =>
   simp only [ht]
   obtain ⟨hy0,hyx,ky,hky,hkys⟩:=c3 _ _ ht
   have hyl:=getElem_lt hky
   by_cases hf:fnd S.p y=fnd S.p x
   ·rw [if_pos hf]
    refine ⟨h.keys hn _ S.N,fun s z hz=>?_,fun i k hk hr=>?_⟩
    ·obtain ⟨h0,_,h3⟩:=c3 s z hz
     exact ⟨h0,h3⟩
    ·by_cases hix:i=x.toNat
     ·subst hix
      have hk:(S.ks.set x.toNat (canonN S.p n))[x.toNat]?=some k:=hk
      rw [hself]at hk
      injection hk with hk
      subst hk
      exact ⟨y,ht,by rw [hxi];exact hf⟩
     ·exact j i k hix hk hr
   ·rw [if_neg hf]
    have h1:=h.keys hn (delT S.tab (keyStr k0)) S.N
    have hyr:0≤y∧y < S.p.length:=⟨hy0,by omega⟩
    have hxr:0≤x∧x < S.p.length:=by rw [h.hp];exact hx
    have ry:=fnd_root h.well hyr.1 hyr.2
    have rx:=fnd_root h.well hxr.1 hxr.2
    obtain ⟨hh,hl⟩:=mx_cases (P:=Rt S.p) ry rx
    have hlt:=mx_lt hf
    obtain ⟨h2,h3⟩:=h1.set hh hl hlt
    refine ⟨h2.withTodo _ ?_,IT.join h.well hlen (fun s z hz=>?_) x.toNat j (y:=y) (fun k hk=>?_) hh hl hlt⟩
    ·show (S.todo++[_]).length+roots (setS _ _ _).p≤S.ns.length
     rw [List.length_append,List.length_singleton]
     exact h3
    ·obtain ⟨h0,_,h4⟩:=c3 s z hz
     exact ⟨h0,h4⟩
    ·rw [hself]at hk
     injection hk with hk
     subst hk
     refine ⟨ht,?_⟩
     rw [hxi]
     rcases mx_mn (fnd S.p y) (fnd S.p x)with ⟨e1,e2,_⟩ | ⟨e1,e2,_⟩
     ·exact .inl ⟨e1.symm,e2.symm⟩
     ·exact .inr ⟨e2.symm,e1.symm⟩
end Go.Proofs.YtjckhhecnebmmaaGreatDoor.TU
end
section
namespace Go.Proofs.YtjckhhecnebmmaaGreatDoor.TU
open Go.RowKit Go.Proofs.YtjckhhecnebmmaaGreatDoorW.PrintWords Go.Proofs.YtjckhhecnebmmaaGreatDoorW.PrintLast Go.Proofs.YtjckhhecnebmmaaGreatDoorW.PrintMore Go.Proofs.YtjckhhecnebmmaaGreatDoor.QAll
attribute [local go_sem] max2_int min2_int max_two min_two max_three min_three max_four min_four
set_option linter.unusedVariables false
structure Sim (S T:St):Prop where
 ns:S.ns=T.ns
 ks:S.ks=T.ks
 us:S.us=T.us
 p:S.p=T.p
 t:S.t=T.t
 ex:S.ex=T.ex
 vs:S.vs=T.vs
 todo:S.todo=T.todo
 dirty:S.dirty=T.dirty
theorem Sim.refl (S:St):Sim S S:=⟨rfl,rfl,rfl,rfl,rfl,rfl,rfl,rfl,rfl⟩
theorem Sim.symm {S T:St} (h:Sim S T):Sim T S:=⟨h.ns.symm,h.ks.symm,h.us.symm,h.p.symm,h.t.symm,h.ex.symm,h.vs.symm,h.todo.symm,h.dirty.symm⟩
theorem Sim.look {S T:St} (h:Sim S T) (iS:Inv S) (iT:Inv T) {k:Nd} (hr:∀ a∈k.args,Rt S.p a) {y:Int} (hy:S.tab (keyStr k)=some y):∃ z,T.tab (keyStr k)=some z∧fnd T.p z=fnd S.p y:=by
 obtain ⟨h0,k',hk',hs⟩:=iS.it.c3 _ _ hy
 have:=keyStr_inj hs
 subst this
 obtain ⟨z,hz,hf⟩:=iT.it.j y.toNat k' (by rw [← h.ks];exact hk') (by rw [← h.p];exact hr)
 refine ⟨z,hz,?_⟩
 rw [hf,h.p]
 congr 1
 omega
theorem Sim.join {S T:St} (h:Sim S T) (x y x' y':Int) (hx:fnd S.p x=fnd S.p x') (hy:fnd S.p y=fnd S.p y'):Sim (joinS S x y) (joinS T x' y'):=by
 have e1:fnd S.p x=fnd T.p x':=by rw [hx,h.p]
 have e2:fnd S.p y=fnd T.p y':=by rw [hy,h.p]
 refine ⟨h.ns,h.ks,h.us,?_,?_,h.ex,h.vs,?_,h.dirty⟩
 ·show S.p.set _ _=T.p.set _ _
  rw [e1,e2,h.p]
 ·show S.t++_=T.t++_
  rw [e1,e2,h.t]
 ·show S.todo++_=T.todo++_
  rw [e1,e2,h.todo]
theorem repair_same {S:St} (hi:Inv S) {x:Int} (hx:0≤x∧x < S.ns.length) {n:Nd} (hn:S.ns[x.toNat]?=some n) (hk0:S.ks[x.toNat]?=some (canonN S.p n)):repairS S x=(S,0):=by
 have h:=hi.ic
 have hin:∀ a∈n.args,0≤a∧a < S.p.length:=fun a ha=>by have:=h.ain x.toNat n hn a ha;rw [h.hp];omega
 have e:rekeyS S x=S:=by unfold rekeyS;rw [keyOf_at hn,getD_at hk0,if_pos (sameB_iff.2 rfl)]
 obtain ⟨y,hy,hf⟩:=hi.it.j x.toNat _ hk0 (canon_roots h.well hin)
 have hxi:((x.toNat:Nat):Int)=x:=by omega
 rw [hxi]at hf
 unfold repairS
 rw [e,keyOf_at hn,hy]
 simp only
 rw [if_pos hf]
theorem repair_diff {S:St} {x:Int} {n k0:Nd} (hn:S.ns[x.toNat]?=some n) (hk0:S.ks[x.toNat]?=some k0) (hne:canonN S.p n≠k0) :
  repairS S x=match S.tab (keyStr (canonN S.p n))with
   | none=>({ S with tab:=putT (delT S.tab (keyStr k0)) (keyStr (canonN S.p n)) x,ks:=S.ks.set x.toNat (canonN S.p n),N:=S.N+1 },0)
   | some y=>if fnd S.p y=fnd S.p x then ({ S with tab:=delT S.tab (keyStr k0),ks:=S.ks.set x.toNat (canonN S.p n) },0)else (joinS { S with tab:=delT S.tab (keyStr k0),ks:=S.ks.set x.toNat (canonN S.p n) } y x,1):=by
 have e:rekeyS S x={ S with tab:=delT S.tab (keyStr k0),ks:=S.ks.set x.toNat (canonN S.p n) }:=by unfold rekeyS;rw [keyOf_at hn,getD_at hk0,if_neg (fun h=>hne (sameB_iff.1 h))]
 have e2:delT S.tab (keyStr k0) (keyStr (canonN S.p n))=S.tab (keyStr (canonN S.p n)):=by
  unfold delT
  rw [if_neg (fun h=>hne (keyStr_inj h))]
 unfold repairS
 rw [e,keyOf_at hn]
 show (match delT S.tab (keyStr k0) (keyStr (canonN S.p n))with
   | none=>_
   | some y=>_)=_
 rw [e2]
def UR (p:List Int) (t:List S115) (p':List Int) (t':List S115):Prop:=∃ m,t'.length=t.length+m∧t'.take t.length=t∧und p' t' m=p∧Safe p' t' m
theorem safe_snoc (p:List Int) (ts:List S115) (s:S115) (k:Nat):Safe p (ts++[s]) (k+1)↔0≤s.f1∧s.f1 < p.length∧Safe (pop1 p s) ts k:=by
 have e1:(ts++[s]).getLastD z115=s:=by simp [List.getLastD_eq_getLast?]
 have e2:(ts++[s]).dropLast=ts:=by simp
 have e:Safe p (ts++[s]) (k+1)=(ts++[s]≠[]∧0≤((ts++[s]).getLastD z115).f1∧((ts++[s]).getLastD z115).f1 < p.length∧Safe (pop1 p ((ts++[s]).getLastD z115)) (ts++[s]).dropLast k):=by rw [Safe]
 rw [e,e1,e2]
 simp
theorem UR.refl (p:List Int) (t:List S115):UR p t p t:=⟨0,by omega,List.take_length,by cases t <;> rfl,trivial⟩
theorem UR.snoc {p p' p'':List Int} {t t':List S115} (h:UR p t p' t') (s:S115) (hs:0≤s.f1∧s.f1 < p''.length) (hp:pop1 p'' s=p'):UR p t p'' (t'++[s]):=by
 obtain ⟨m,h1,h2,h3,h4⟩:=h
 refine ⟨m+1,by rw [List.length_append,List.length_singleton];omega,?_,?_,?_⟩
 ·rw [List.take_append_of_le_length (by omega)];exact h2
 ·rw [und_snoc,hp];exact h3
 ·rw [safe_snoc,hp];exact ⟨hs.1,hs.2,h4⟩
theorem UR.set {p p':List Int} {t t':List S115} (h:UR p t p' t') {hi lo:Int} (hh:Rt p' hi):UR p t (p'.set hi.toNat lo) (t'++[⟨false,hi⟩]):=by
 refine h.snoc ⟨false,hi⟩ ⟨hh.1,by rw [List.length_set];exact hh.2.1⟩ ?_
 unfold pop1
 simp only [Bool.false_eq_true,if_false,List.set_set]
 have h0:=hh.1
 have h1:=hh.2.1
 have h2:=hh.2.2
 unfold rd at h2
 rw [List.getD_eq_getElem?_getD,List.getElem?_eq_getElem (by omega)]at h2
 apply List.ext_getElem?
 intro i
 by_cases hi':i=hi.toNat
 ·subst hi'
  rw [List.getElem?_set_self (by omega),List.getElem?_eq_getElem (by omega)]
  exact congrArg some h2.symm
 ·rw [List.getElem?_set_ne (by omega)]
structure Kept (S S':St):Prop where
 ns:S'.ns=S.ns
 us:S'.us=S.us
 ex:S'.ex=S.ex
 vs:S'.vs=S.vs
 L:S'.L=S.L
 ms:S'.ms=S.ms
 ur:∀ p t,UR p t S.p S.t→UR p t S'.p S'.t
theorem Kept.refl (S:St):Kept S S:=⟨rfl,rfl,rfl,rfl,rfl,rfl,fun _ _ h=>h⟩
theorem Kept.trans {S T U:St} (h:Kept S T) (k:Kept T U):Kept S U:=⟨k.ns.trans h.ns,k.us.trans h.us,k.ex.trans h.ex,k.vs.trans h.vs,k.L.trans h.L,k.ms.trans h.ms,fun p t u=>k.ur p t (h.ur p t u)⟩
theorem kept_join {S:St} {x y:Int} (hW:Well S.p) (hx:0≤x∧x < S.p.length) (hy:0≤y∧y < S.p.length):Kept S (joinS S x y):=by
 obtain ⟨hh,_⟩:=mx_cases (P:=Rt S.p) (fnd_root hW hx.1 hx.2) (fnd_root hW hy.1 hy.2)
 exact ⟨rfl,rfl,rfl,rfl,rfl,rfl,fun p t h=>h.set hh⟩
theorem join_roots {S:St} {x y:Int} (hW:Well S.p) (hx:0≤x∧x < S.p.length) (hy:0≤y∧y < S.p.length) (hne:fnd S.p x≠fnd S.p y):roots (joinS S x y).p+1=roots S.p∧(joinS S x y).todo.length+roots (joinS S x y).p=S.todo.length+roots S.p:=by
 obtain ⟨hh,_⟩:=mx_cases (P:=Rt S.p) (fnd_root hW hx.1 hx.2) (fnd_root hW hy.1 hy.2)
 have h:=roots_set hh (mx_lt hne)
 have e:roots (joinS S x y).p=roots (S.p.set (mx (fnd S.p x) (fnd S.p y)).toNat (mn (fnd S.p x) (fnd S.p y))):=rfl
 have e2:(joinS S x y).todo.length=S.todo.length+1:=by show (S.todo++[_]).length=_;simp
 omega
structure Step (S:St) (r:St × Int) (c:Nat):Prop where
 inv:Inv r.1
 kept:Kept S r.1
 dirty:r.1.dirty=S.dirty
 sum:r.1.todo.length+roots r.1.p=S.todo.length+roots S.p
 joins:r.2+(roots r.1.p:Int)=roots S.p
 N:r.1.N≤S.N+c
theorem repair_step {S:St} (hi:Inv S) {x:Int} (hx:0≤x∧x < S.ns.length):Step S (repairS S x) 1:=by
 have h:=hi.ic
 have hxl:x.toNat < S.ns.length:=by omega
 obtain ⟨n,hn⟩:∃ n,S.ns[x.toNat]?=some n:=⟨_,List.getElem?_eq_getElem hxl⟩
 obtain ⟨k0,hk0⟩:∃ k,S.ks[x.toNat]?=some k:=⟨_,List.getElem?_eq_getElem (by rw [h.hk];exact hxl)⟩
 have hinv:=hi.repair hx
 by_cases hs:canonN S.p n=k0
 ·have e:=repair_same hi hx hn (by rw [hs];exact hk0)
  rw [e]
  exact ⟨hi,Kept.refl S,rfl,rfl,by simp,by simp⟩
 ·have e:=repair_diff hn hk0 hs
  rw [e]at hinv ⊢
  cases ht:S.tab (keyStr (canonN S.p n))with
  | none =>
   rw [ht]at hinv
   exact ⟨hinv,⟨rfl,rfl,rfl,rfl,rfl,rfl,fun _ _ h=>h⟩,rfl,rfl,by simp,Nat.le_refl _⟩
  | some y =>
   rw [ht]at hinv
   simp only at hinv ⊢
   by_cases hf:fnd S.p y=fnd S.p x
   ·rw [if_pos hf]at hinv ⊢
    exact ⟨hinv,⟨rfl,rfl,rfl,rfl,rfl,rfl,fun _ _ h=>h⟩,rfl,rfl,by simp,Nat.le_succ _⟩
   ·rw [if_neg hf]at hinv ⊢
    obtain ⟨h0,k',hk',_⟩:=hi.it.c3 _ _ ht
    have hyr:0≤y∧y < S.p.length:=⟨h0,by have:=getElem_lt hk';rw [h.hp,← h.hk];omega⟩
    have hxr:0≤x∧x < S.p.length:=by rw [h.hp];exact hx
    have hj:=join_roots (S:={ S with tab:=delT S.tab (keyStr k0),ks:=S.ks.set x.toNat (canonN S.p n) }) h.well hyr hxr hf
    have hk:=kept_join (S:={ S with tab:=delT S.tab (keyStr k0),ks:=S.ks.set x.toNat (canonN S.p n) }) h.well hyr hxr
    refine ⟨hinv,⟨hk.ns,hk.us,hk.ex,hk.vs,hk.L,hk.ms,hk.ur⟩,rfl,hj.2,?_,Nat.le_succ _⟩
    have:=hj.1
    show (1:Int)+(roots (joinS _ y x).p:Int)=(roots S.p:Int)
    have e3:roots ({ S with tab:=delT S.tab (keyStr k0),ks:=S.ks.set x.toNat (canonN S.p n) }:St).p=roots S.p:=rfl
    rw [e3]at this
    omega
theorem repair_sim {S T:St} (h:Sim S T) (iS:Inv S) (iT:Inv T) {x:Int} (hx:0≤x∧x < S.ns.length):Sim (repairS S x).1 (repairS T x).1∧(repairS S x).2=(repairS T x).2:=by
 have hxl:x.toNat < S.ns.length:=by omega
 obtain ⟨n,hn⟩:∃ n,S.ns[x.toNat]?=some n:=⟨_,List.getElem?_eq_getElem hxl⟩
 obtain ⟨k0,hk0⟩:∃ k,S.ks[x.toNat]?=some k:=⟨_,List.getElem?_eq_getElem (by rw [iS.ic.hk];exact hxl)⟩
 have hnT:T.ns[x.toNat]?=some n:=by rw [← h.ns];exact hn
 have hkT:T.ks[x.toNat]?=some k0:=by rw [← h.ks];exact hk0
 have hxT:0≤x∧x < T.ns.length:=by rw [← h.ns];exact hx
 have hcan:canonN T.p n=canonN S.p n:=by rw [h.p]
 by_cases hs:canonN S.p n=k0
 ·rw [repair_same iS hx hn (by rw [hs];exact hk0),repair_same iT hxT hnT (by rw [hcan,hs];exact hkT)]
  exact ⟨h,rfl⟩
 ·have hin:∀ a∈n.args,0≤a∧a < S.p.length:=fun a ha=>by have:=iS.ic.ain x.toNat n hn a ha;rw [iS.ic.hp];omega
  have hroots:=canon_roots iS.ic.well hin
  rw [repair_diff hn hk0 hs,repair_diff hnT hkT (by rw [hcan];exact hs),hcan]
  have hkk:S.ks.set x.toNat (canonN S.p n)=T.ks.set x.toNat (canonN S.p n):=by rw [h.ks]
  cases hS:S.tab (keyStr (canonN S.p n))with
  | none =>
   cases hT:T.tab (keyStr (canonN S.p n))with
   | none=>exact ⟨⟨h.ns,hkk,h.us,h.p,h.t,h.ex,h.vs,h.todo,h.dirty⟩,rfl⟩
   | some z =>
    obtain ⟨y,hy,_⟩:=h.symm.look iT iS (by rw [← h.p];exact hroots) hT
    rw [hS]at hy
    cases hy
  | some y =>
   obtain ⟨z,hz,hf⟩:=h.look iS iT hroots hS
   rw [hz]
   simp only
   have hfx:fnd T.p x=fnd S.p x:=by rw [h.p]
   rw [hf,hfx]
   by_cases hyx:fnd S.p y=fnd S.p x
   ·rw [if_pos hyx,if_pos hyx]
    exact ⟨⟨h.ns,hkk,h.us,h.p,h.t,h.ex,h.vs,h.todo,h.dirty⟩,rfl⟩
   ·rw [if_neg hyx,if_neg hyx]
    have hs1:Sim ({ S with tab:=delT S.tab (keyStr k0),ks:=S.ks.set x.toNat (canonN S.p n) }:St) ({ T with tab:=delT T.tab (keyStr k0),ks:=T.ks.set x.toNat (canonN S.p n) }:St):=⟨h.ns,hkk,h.us,h.p,h.t,h.ex,h.vs,h.todo,h.dirty⟩
    exact ⟨hs1.join y x z x (by show fnd S.p y=fnd S.p z;rw [← hf,h.p]) rfl,rfl⟩
end Go.Proofs.YtjckhhecnebmmaaGreatDoor.TU
end

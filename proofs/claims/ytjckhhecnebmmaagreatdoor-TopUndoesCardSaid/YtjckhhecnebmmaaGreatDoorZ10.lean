/- Steps towards the law TopUndoes; words printed by the kit, and printed texts, are cut to what is used, and spaces are left out. No condition. -/
import Derived.Test.YtjckhhecnebmmaaGreatDoorZ9
import Derived.Test.YtjckhhecnebmmaaGreatDoorZ8
import Derived.Test.YtjckhhecnebmmaaGreatDoorZ6
set_option linter.unusedVariables false
set_option linter.unusedSimpArgs false
section
namespace Go.Proofs.YtjckhhecnebmmaaGreatDoor.TU
open Go.RowKit Go.Proofs.YtjckhhecnebmmaaGreatDoorW.PrintWords Go.Proofs.YtjckhhecnebmmaaGreatDoorW.PrintLast Go.Proofs.YtjckhhecnebmmaaGreatDoorW.PrintMore Go.Proofs.YtjckhhecnebmmaaGreatDoor.QAll
attribute [local go_sem] max2_int min2_int max_two min_two max_three min_three max_four min_four
set_option linter.unusedVariables false
def zNd:Nd:=⟨0,0,0,⟨#[]⟩,[]⟩
set_option maxHeartbeats 1600000 in
set_option maxRecDepth 20000 in
theorem gunion_out {b g:Nat} {w:World} {o:Own} {S:St} (H:GraphAt b w o g S) (hS:Fine S) (x y z:Int) (hz:¬ z=-1) (hxy:x < 0∨(0≤x∧y < 0)∨(0≤x∧0≤y∧S.ns.length≤x)∨(0≤x∧0≤y∧x < S.ns.length∧S.ns.length≤y)) :
  Calls Tryz.prog 22 #[.pointer (some ⟨g,0,none⟩),.int .i64 x,.int .i64 y,.int .i64 z] w fun e w'=>e=.returned (.tuple #[.bool false,.int .i64 2])∧w=w':=by
 obtain ⟨cb,C,h1,h2⟩:=H
 have c0:w.cell? ⟨g,0,none⟩=some (.pointer (some ⟨cb,0,none⟩)):=(blk_cell h1.1 0).trans rfl
 obtain ⟨A,c,hv⟩:=h2.nodes.slice
 have c1:w.cell? ⟨cb,1,none⟩=some (.slice A S.ns.length c):=by rw [← hv];exact (blk_cell h2.blk.1 1).trans rfl
 have hz1:(z == -1)=false:=by simpa using hz
 have few:=hS.few
 clear h1 h2 hv hz hS
 rcases hxy with h | ⟨h0,h⟩ | ⟨h0,h1,h⟩ | ⟨h0,h1,h2,h⟩
 all_goals
  go_enter Tryz.func22,Tryz.ntmps22
  go_wp2_with fail
  refine (gmade_calls c0).mono ?_
  rintro e w' ⟨rfl,rfl⟩
  go_wp2
  go_ret2
  exact ⟨rfl,rfl⟩
set_option maxHeartbeats 1600000 in
set_option maxRecDepth 20000 in
theorem gunion_width {b g:Nat} {w:World} {o:Own} {S:St} (H:GraphAt b w o g S) (hS:Fine S) (x y z:Int) (hz:¬ z=-1) (hx0:0≤x) (hy0:0≤y) (hx1:x < S.ns.length) (hy1:y < S.ns.length) (hne:(S.ns.getD x.toNat zNd).width≠(S.ns.getD y.toNat zNd).width) :
  Calls Tryz.prog 22 #[.pointer (some ⟨g,0,none⟩),.int .i64 x,.int .i64 y,.int .i64 z] w fun e w'=>e=.returned (.tuple #[.bool false,.int .i64 3])∧Below w.heap.size w w':=by
 obtain ⟨cb,C,h1,h2⟩:=H
 have c0:w.cell? ⟨g,0,none⟩=some (.pointer (some ⟨cb,0,none⟩)):=(blk_cell h1.1 0).trans rfl
 obtain ⟨A,c,hv⟩:=h2.nodes.slice
 have hnd:=h2.nodes
 rw [hv]at hnd
 have c1:w.cell? ⟨cb,1,none⟩=some (.slice A S.ns.length c):=by rw [← hv];exact (blk_cell h2.blk.1 1).trans rfl
 have hz1:(z == -1)=false:=by simpa using hz
 have few:=hS.few
 obtain ⟨bl,va,nx,rfl,_,hgx,_,_,hcx,_⟩:=hnd.at x hx0 hx1
 obtain ⟨bl',vb,ny,e,_,hgy,_,_,hcy,_⟩:=hnd.at y hy0 hy1
 obtain rfl:bl=bl':=by injection e with e;injection e
 rw [show zNd=⟨0,0,0,⟨#[]⟩,[]⟩from rfl,hgx,hgy]at hne
 have hne1:(nx.width != ny.width)=true:=by simpa using hne
 clear h1 h2 hv hz hS hnd hgx hgy e hne
 go_enter Tryz.func22,Tryz.ntmps22
 go_wp2_with fail
 refine (gmade_calls c0).mono ?_
 rintro e w' ⟨rfl,rfl⟩
 go_wp2
 go_quiet (fail)
 go_wp2
 go_ret2
 exact ⟨rfl,by first | exact Below.refl _ _ | exact pw_below_drewN (Below.refl _ _) _⟩
set_option maxHeartbeats 1600000 in
set_option maxRecDepth 20000 in
theorem gunion_same {b g:Nat} {w:World} {o:Own} {S:St} (H:GraphAt b w o g S) (hS:Fine S) (x y z:Int) (hz:¬ z=-1) (hx0:0≤x) (hy0:0≤y) (hx1:x < S.ns.length) (hy1:y < S.ns.length) (heq:(S.ns.getD x.toNat zNd).width=(S.ns.getD y.toNat zNd).width) (hf:fnd S.p x=fnd S.p y) :
  Calls Tryz.prog 22 #[.pointer (some ⟨g,0,none⟩),.int .i64 x,.int .i64 y,.int .i64 z] w fun e w'=>e=.returned (.tuple #[.bool false,.int .i64 0])∧Below w.heap.size w w':=by
 obtain ⟨cb,C,h1,h2⟩:=H
 have c0:w.cell? ⟨g,0,none⟩=some (.pointer (some ⟨cb,0,none⟩)):=(blk_cell h1.1 0).trans rfl
 obtain ⟨A,c,hv⟩:=h2.nodes.slice
 have hnd:=h2.nodes
 rw [hv]at hnd
 have c1:w.cell? ⟨cb,1,none⟩=some (.slice A S.ns.length c):=by rw [← hv];exact (blk_cell h2.blk.1 1).trans rfl
 have hz1:(z == -1)=false:=by simpa using hz
 have few:=hS.few
 obtain ⟨bl,va,nx,rfl,_,hgx,_,_,hcx,_⟩:=hnd.at x hx0 hx1
 obtain ⟨bl',vb,ny,e,_,hgy,_,_,hcy,_⟩:=hnd.at y hy0 hy1
 obtain rfl:bl=bl':=by injection e with e;injection e
 rw [show zNd=⟨0,0,0,⟨#[]⟩,[]⟩from rfl,hgx,hgy]at heq
 have hne1:(nx.width != ny.width)=false:=by simpa using heq
 have hinx:inB S.p x=true:=inB_yes hx0 (by have:=hS.hp;omega)
 have hiny:inB S.p y=true:=inB_yes hy0 (by have:=hS.hp;omega)
 have hsm:=fun n=>same_calls (w:=w.drewN n) (UF.below h2.sets.uf (pw_below_drewN (Below.refl _ _) n)) hS.pl hS.well x y
 rw [hinx,Bool.true_and]at hsm
 obtain ⟨sg,vn,vk,vu,eg,tg,fg,mv,vt,vm⟩:=C
 have c2:w.cell? ⟨cb,0,none⟩=some (.pointer (some ⟨sg,0,none⟩)):=(blk_cell h2.blk.1 0).trans rfl
 have HG:=Lib.hid h1
 have HC:=Lib.hid h2
 have HS:=Lib.hid hS
 have HIX:=Lib.hid hinx
 have HIY:=Lib.hid hiny
 rw [show (fnd S.p x == fnd S.p y)=true by simpa using hf]at hsm
 clear h1 h2 hv hz hS hnd hgx hgy e heq hinx hiny hf
 go_enter Tryz.func22,Tryz.ntmps22
 go_wp2_with fail
 refine (gmade_calls c0).mono ?_
 rintro e w' ⟨rfl,rfl⟩
 go_wp2
 go_quiet (fail)
 go_wp2_with (go_at_call 37;refine (hsm _).mono ?_;rintro e w' ⟨rfl,rfl⟩)
 go_ret2
 exact ⟨rfl,by first | exact Below.refl _ _ | exact pw_below_drewN (Below.refl _ _) _⟩
theorem CoreAt.drewN {b cb:Nat} {w:World} {o:Own} {C:Cl} {S:St} (h:CoreAt b w o cb C S) (n:Nat):CoreAt b (w.drewN n) o cb C S:=h.fr ((Kp.refl (fun _=>False) w o).drewN n) (fun _ _ h=>h) id
theorem CoreAt.drew {b cb:Nat} {w:World} {o:Own} {C:Cl} {S:St} (h:CoreAt b w o cb C S):CoreAt b w.drew o cb C S:=h.fr ((Kp.refl (fun _=>False) w o).drew) (fun _ _ h=>h) id
set_option maxHeartbeats 1600000 in
set_option maxRecDepth 20000 in
theorem gunion_join {b g:Nat} {w:World} {o:Own} {S:St} (H:GraphAt b w o g S) (hS:Fine S) (x y z:Int) (hz:¬ z=-1) (hx0:0≤x) (hy0:0≤y) (hx1:x < S.ns.length) (hy1:y < S.ns.length) (heq:(S.ns.getD x.toNat zNd).width=(S.ns.getD y.toNat zNd).width) (hf:fnd S.p x≠fnd S.p y) :
  Calls Tryz.prog 22 #[.pointer (some ⟨g,0,none⟩),.int .i64 x,.int .i64 y,.int .i64 z] w (GraphPost b g w o (.tuple #[.bool true,.int .i64 0]) { joinS S x y with dirty:=true } (S.L.length+1)):=by
 obtain ⟨cb,C,h1,h2⟩:=H
 have c0:w.cell? ⟨g,0,none⟩=some (.pointer (some ⟨cb,0,none⟩)):=(blk_cell h1.1 0).trans rfl
 obtain ⟨A,c,hv⟩:=h2.nodes.slice
 have hnd:=h2.nodes
 rw [hv]at hnd
 have c1:w.cell? ⟨cb,1,none⟩=some (.slice A S.ns.length c):=by rw [← hv];exact (blk_cell h2.blk.1 1).trans rfl
 have hz1:(z == -1)=false:=by simpa using hz
 have few:=hS.few
 obtain ⟨bl,va,nx,rfl,_,hgx,_,_,hcx,_⟩:=hnd.at x hx0 hx1
 obtain ⟨bl',vb,ny,e,_,hgy,_,_,hcy,_⟩:=hnd.at y hy0 hy1
 obtain rfl:bl=bl':=by injection e with e;injection e
 rw [show zNd=⟨0,0,0,⟨#[]⟩,[]⟩from rfl,hgx,hgy]at heq
 have hne1:(nx.width != ny.width)=false:=by simpa using heq
 have hinx:inB S.p x=true:=inB_yes hx0 (by have:=hS.hp;omega)
 have hiny:inB S.p y=true:=inB_yes hy0 (by have:=hS.hp;omega)
 have hsm:=fun n=>same_calls (w:=w.drewN n) (UF.below h2.sets.uf (pw_below_drewN (Below.refl _ _) n)) hS.pl hS.well x y
 rw [hinx,Bool.true_and]at hsm
 obtain ⟨sg,vn,vk,vu,eg,tg,fg,mv,vt,vm⟩:=C
 have c2:w.cell? ⟨cb,0,none⟩=some (.pointer (some ⟨sg,0,none⟩)):=(blk_cell h2.blk.1 0).trans rfl
 have HG:=Lib.hid h1
 have HC:=Lib.hid h2
 have HS:=Lib.hid hS
 have HIX:=Lib.hid hinx
 have HIY:=Lib.hid hiny
 rw [show (fnd S.p x == fnd S.p y)=false by simpa using hf]at hsm
 have HF:=Lib.hid hf
 clear h1 h2 hv hz hS hnd hgx hgy e heq hinx hiny hf
 go_enter Tryz.func22,Tryz.ntmps22
 go_wp2_with fail
 refine (gmade_calls c0).mono ?_
 rintro e w' ⟨rfl,rfl⟩
 go_wp2
 go_quiet (fail)
 go_wp2_with (first | (go_at_call 37;refine (hsm _).mono ?_;rintro e w' ⟨rfl,rfl⟩) | (go_at_call 38;refine (join_calls (HC.out.drewN _) HS.out x y z HIX.out HIY.out HF.out).mono ?_;rintro e w2 ⟨o2,C2,L2,rfl,h2,hl2,f2⟩;have H2:=Lib.hid h2;have F2:=Lib.hid f2;have HL2:=Lib.hid hl2;have hfz:=blk_frozen h2.blk.1 9;have d9:w2.cell? ⟨cb,9,none⟩=some (.bool S.dirty):=(blk_cell h2.blk.1 9).trans rfl;clear h2 f2 hl2))
 go_ret2
 have g1:=F2.out.setCell ⟨cb,9,none⟩ (.bool true) (.inl (by have:=HC.out.blk;rw [F2.out.own cb (blk_lt (HC.out.drewN _).blk.1),this.2];unfold CoreM;omega))
 have g0:=((Fr.start (CoreM b) w o 0 (.inl rfl)).drewN 0)
 refine ⟨_,L2,rfl,⟨cb,C2,?_,H2.out.onDirty true⟩,HL2.out,?_⟩
 ·exact (HG.out.fr ((Kp.refl (fun _=>False) w o).drewN _) id).fr g1.kp (by unfold CoreM;omega)
 ·exact ⟨g1.os,g1.tape,g1.output,g1.size,g1.own,fun k hk hm=>g1.block k hk (fun h=>hm (coreM_graph h)),fun k hk=>(g1.new k hk).imp id (fun h=>coreM_graph h)⟩
theorem GraphAt.zero {b g:Nat} {w w':World} {o:Own} {S:St} (H:GraphAt b w o g S) (hb:Below w.heap.size w w'):GraphAt b w' (o.from_ w.heap.size 0) g S:=H.fr (((Kp.refl (fun _=>False) w o).renew 0).below hb) (fun _ _ h=>h) id
theorem gunion_calls {b g:Nat} {w:World} {o:Own} {S:St} (H:GraphAt b w o g S) (hS:Fine S) (x y z:Int) (hz:¬ z=-1) :
  Calls Tryz.prog 22 #[.pointer (some ⟨g,0,none⟩),.int .i64 x,.int .i64 y,.int .i64 z] w (GraphPost b g w o (.tuple #[.bool (unionS S x y z).2.2,.int .i64 (unionS S x y z).2.1]) (unionS S x y z).1 (S.L.length+1)):=by
 have hp:=hS.hp
 have quiet:∀ {v:Value} {w':World},Below w.heap.size w w'→GraphPost b g w o v S (S.L.length+1) (.returned v) w':=fun {v w'} hb=>⟨_,S.L,rfl,H.zero hb,by omega,Fr.of_below hb 0 (.inl rfl)⟩
 by_cases hin:inB S.p x=true∧inB S.p y=true
 ·have hx:0≤x∧x < S.p.length:=by simpa [inB]using hin.1
  have hy:0≤y∧y < S.p.length:=by simpa [inB]using hin.2
  by_cases hw:(S.ns.getD x.toNat zNd).width=(S.ns.getD y.toNat zNd).width
  ·by_cases hf:fnd S.p x=fnd S.p y
   ·have e:unionS S x y z=(S,0,false):=by unfold unionS;rw [if_neg hz,if_neg (by simp [hin]),if_neg (fun h=>h hw),if_pos hf]
    rw [e]
    refine (gunion_same H hS x y z hz hx.1 hy.1 (by omega) (by omega) hw hf).mono ?_
    rintro e w' ⟨rfl,hb⟩
    exact quiet hb
   ·have e:unionS S x y z=({ joinS S x y with dirty:=true },0,true):=by unfold unionS;rw [if_neg hz,if_neg (by simp [hin]),if_neg (fun h=>h hw),if_neg hf]
    rw [e]
    exact gunion_join H hS x y z hz hx.1 hy.1 (by omega) (by omega) hw hf
  ·have e:unionS S x y z=(S,3,false):=by unfold unionS;rw [if_neg hz,if_neg (by simp [hin]),if_pos (by rw [show (⟨0,0,0,⟨#[]⟩,[]⟩:Nd)=zNd from rfl];exact hw)]
   rw [e]
   refine (gunion_width H hS x y z hz hx.1 hy.1 (by omega) (by omega) hw).mono ?_
   rintro e w' ⟨rfl,hb⟩
   exact quiet hb
 ·have e:unionS S x y z=(S,2,false):=by unfold unionS;rw [if_neg hz,if_pos hin]
  rw [e]
  refine (gunion_out H hS x y z hz ?_).mono ?_
  ·simp only [inB,Bool.and_eq_true,decide_eq_true_eq]at hin
   omega
  ·rintro e w' ⟨rfl,rfl⟩
   exact quiet (Below.refl _ _)
end Go.Proofs.YtjckhhecnebmmaaGreatDoor.TU
end
section
namespace Go.Proofs.YtjckhhecnebmmaaGreatDoor.TU
open Go.RowKit Go.Proofs.YtjckhhecnebmmaaGreatDoorW.PrintWords Go.Proofs.YtjckhhecnebmmaaGreatDoorW.PrintLast Go.Proofs.YtjckhhecnebmmaaGreatDoorW.PrintMore Go.Proofs.YtjckhhecnebmmaaGreatDoor.QAll
attribute [local go_sem] max2_int min2_int max_two min_two max_three min_three max_four min_four
set_option linter.unusedVariables false
def sink (l:List Int):Nat→List Int
 | 0=>l
 | k+1=>if l.getD (k+1) 0 < l.getD k 0 then sink ((l.set (k+1) (l.getD k 0)).set k (l.getD (k+1) 0)) k else l
def sortTo (l:List Int):Nat→List Int
 | 0=>l
 | i+1=>sink (sortTo l i) i
def sortL (l:List Int):List Int:=sortTo l l.length
theorem sink_length (l:List Int):∀ k,(sink l k).length=l.length:=by
 intro k
 induction k generalizing l with
 | zero=>rfl
 | succ k ih =>
  unfold sink
  split
  ·rw [ih];simp
  ·rfl
theorem sortTo_length (l:List Int):∀ k,(sortTo l k).length=l.length:=by
 intro k
 induction k with
 | zero=>rfl
 | succ k ih=>unfold sortTo;rw [sink_length,ih]
theorem sink_mem (l:List Int):∀ k,k < l.length→∀ x∈sink l k,x∈l:=by
 intro k
 induction k generalizing l with
 | zero=>intro _ x h;exact h
 | succ k ih =>
  intro hk x h
  unfold sink at h
  split at h
  ·have h2:=ih _ (by simp;omega) x h
   have e1:l.getD k 0∈l:=by rw [List.getD_eq_getElem?_getD,List.getElem?_eq_getElem (by omega)];exact List.getElem_mem _
   have e2:l.getD (k+1) 0∈l:=by rw [List.getD_eq_getElem?_getD,List.getElem?_eq_getElem (by omega)];exact List.getElem_mem _
   rcases List.mem_or_eq_of_mem_set h2 with h3 | h3
   ·rcases List.mem_or_eq_of_mem_set h3 with h4 | h4
    ·exact h4
    ·rw [h4];exact e1
   ·rw [h3];exact e2
  ·exact h
theorem sortTo_mem (l:List Int):∀ k,k≤l.length→∀ x∈sortTo l k,x∈l:=by
 intro k
 induction k with
 | zero=>intro _ x h;exact h
 | succ k ih =>
  intro hk x h
  unfold sortTo at h
  exact ih (by omega) x (sink_mem _ k (by rw [sortTo_length];omega) x h)
theorem sortL_mem (l:List Int):∀ x∈sortL l,x∈l:=sortTo_mem l _ (Nat.le_refl _)
theorem sortL_length (l:List Int):(sortL l).length=l.length:=sortTo_length l _
set_option maxHeartbeats 3200000 in
set_option maxRecDepth 20000 in
theorem sorted_calls {B:Nat} {w:World} {v:Value} {xs:List Int} (h:Kd.R (Kd.int .i64) 3 w B (fun _=>True) v xs) (hl:xs.length≤1000000000) :
  Calls Tryz.prog 60 #[v] w fun e w'=>e=.returned v∧Kd.R (Kd.int .i64) 3 w' B (fun _=>True) v (sortL xs)∧Below B w w':=by
 obtain ⟨A,c,rfl⟩:=Kd.R_slice h
 have HR:=Lib.hid h
 have HL:=Lib.hid hl
 clear h
 go_enter Tryz.func60,Tryz.ntmps60
 go_wp2
 go_loopw [7] (fun i wr=>∃ k:Nat,k≤xs.length∧i=.int .i64 k∧Hid (Kd.R (Kd.int .i64) 3 wr B (fun _=>True) (.slice A xs.length c) (sortTo xs k))∧Hid (Below B w wr)) (fun i _=>xs.length - (intOf i).toNat)
 case atStart=>exact ⟨0,Nat.zero_le _,rfl,HR,Below.refl _ _⟩
 case round =>
  obtain ⟨k,hk,rfl,H1,H2⟩:=hrel
  by_cases hlt:k < xs.length
  ·have hlen:=sortTo_length xs k
   obtain ⟨b2,cc,he,hbB,hbl,_⟩:=Kd.R_form H1.out (by omega)
   injection he with he1 he2 he3
   subst he1
   clear HR he2 he3
   go_wp2
   go_loopw [4] (fun i w2=>∃ j:Nat,j≤k∧i=.int .i64 j∧Hid (∃ l:List Int,l.length=xs.length∧Kd.R (Kd.int .i64) 3 w2 B (fun _=>True) (.slice (some ⟨b2,0,none⟩) xs.length c) l∧sink l j=sink (sortTo xs k) k)∧Hid (Below B w w2)) (fun i _=>(intOf i).toNat)
   case atStart=>exact ⟨k,Nat.le_refl _,rfl,⟨_,hlen,H1.out,rfl⟩,H2⟩
   case round =>
    obtain ⟨j,hj,rfl,⟨l,h3,h4,h5⟩,H6⟩:=hrel
    have H3:=Lib.hid h3
    have H4:=Lib.hid h4
    have H5:=Lib.hid h5
    clear H1 H2 hlen
    cases j with
    | zero =>
     clear h3 h4 h5
     go_wp2
     go_quiet (fail)
     go_wp2
     go_roundw
     case rel =>
      refine ⟨k+1,by omega,by go_num,?_,pw_below_drewN H6.out _⟩
      have e:sortTo xs (k+1)=l:=H5.out.symm
      rw [e]
      exact Kd.R_drewN H4.out _
     case measure=>simp [intOf];omega
    | succ j =>
     have hw1:IntKind.i64.wrap ((j:Int)+1 - 1)=j:=by rw [IntWalk.i64_in _ (by omega)];omega
     obtain ⟨hc1,hf1⟩:=Kd.R_celln 0 H4.out ((j:Int)+1) (by omega) (by omega)
     obtain ⟨hc0,hf0⟩:=Kd.R_celln 0 H4.out (j:Int) (by omega) (by omega)
     have e1:rdOf (0:Int) l ((j:Int)+1)=l.getD (j+1) 0:=by unfold rdOf;rw [show ((j:Int)+1).toNat=j+1 by omega]
     have e0:rdOf (0:Int) l (j:Int)=l.getD j 0:=by unfold rdOf;rw [Int.toNat_natCast]
     rw [e1,show ((j:Int)+1).toNat=j+1 by omega]at hc1
     rw [e0,Int.toNat_natCast]at hc0
     rw [show ((j:Int)+1).toNat=j+1 by omega]at hf1
     rw [Int.toNat_natCast]at hf0
     have hun:sink l (j+1)=if l.getD (j+1) 0 < l.getD j 0 then sink ((l.set (j+1) (l.getD j 0)).set j (l.getD (j+1) 0)) j else l:=rfl
     have HP:=Lib.hid (Kd.R_putn (Kd.R_putn H4.out ((j:Int)+1) (l.getD j 0)) (j:Int) (l.getD (j+1) 0))
     rw [show ((j:Int)+1).toNat=j+1 by omega,Int.toNat_natCast]at HP
     have HU:=Lib.hid hun
     clear h3 h4 h5 e1 e0 hun
     generalize l.getD (j+1) 0=a1 at *
     generalize l.getD j 0=a0 at *
     by_cases hlt2:a1 < a0
     ·go_wp2
      go_quiet (fail)
      go_wp2
      have HPq:=Lib.hid (show Kd.R (Kd.int .i64) 3 (((wr.drewN nq).drew.setCell ⟨b2,j+1,none⟩ (.int .i64 a0)).setCell ⟨b2,j,none⟩ (.int .i64 a1)) B (fun _=>True) _ _ from HP.out)
      have HBq:=Lib.hid (show Below B w (((wr.drewN nq).drew.setCell ⟨b2,j+1,none⟩ (.int .i64 a0)).setCell ⟨b2,j,none⟩ (.int .i64 a1))from ((pw_below_drewN H6.out nq).drew.setCell (p:=⟨b2,j+1,none⟩) hbB _).setCell (p:=⟨b2,j,none⟩) hbB _)
      have hc1q:(wr.drewN nq).drew.cell? ⟨b2,j+1,none⟩=some (.int .i64 a1):=hc1
      have hc0q:(wr.drewN nq).drew.cell? ⟨b2,j,none⟩=some (.int .i64 a0):=hc0
      have hf1q:(wr.drewN nq).drew.frozen? ⟨b2,j+1,none⟩=false:=hf1
      have hf0q:(wr.drewN nq).drew.frozen? ⟨b2,j,none⟩=false:=hf0
      have i1:(0:Int)≤((j+1:Nat):Int):=by omega
      have i2:((j+1:Nat):Int) < (xs.length:Int):=by omega
      have i3:(0:Int)≤(j:Int):=by omega
      have i4:(j:Int) < (xs.length:Int):=by omega
      have i5:IntKind.i64.wrap (((j+1:Nat):Int) - 1)=j:=by rw [IntWalk.i64_in _ (by omega)];omega
      have i7:IntKind.i64.wrap (j:Int)=j:=IntWalk.i64_in _ (by omega)
      have i8:(0:Int)≤(j:Int)+1:=by omega
      have i9:(j:Int)+1 < (xs.length:Int):=by omega
      have n1:j+1 < xs.length:=by omega
      have n2:j < xs.length:=by omega
      have i6:((j:Int)+1).toNat=j+1:=by omega
      go_region_law (fail)
      all_goals go_wp2
      all_goals
       go_roundw
       case rel =>
        refine ⟨j,by omega,by go_num,⟨_,?_,HPq.out,?_⟩,HBq.out⟩
        ·simp [H3.out]
        ·have:=HU.out
         rw [if_pos hlt2,H5.out]at this
         exact this.symm
       case measure=>first | (simp [intOf];done) | (simp [intOf];omega)
     ·go_wp2
      go_quiet (fail)
      go_wp2
      go_roundw
      case rel =>
       refine ⟨k+1,by omega,by go_num,?_,pw_below_drewN H6.out _⟩
       have e:sortTo xs (k+1)=l:=by
        have:=HU.out
        rw [if_neg (by omega),H5.out]at this
        exact this
       rw [e]
       exact Kd.R_drewN H4.out _
      case measure=>simp [intOf];omega
  ·have hkl:k=xs.length:=by omega
   subst hkl
   go_wp2
   go_ret
   exact ⟨rfl,H1.out,H2.out⟩
end Go.Proofs.YtjckhhecnebmmaaGreatDoor.TU
end
section
namespace Go.Proofs.YtjckhhecnebmmaaGreatDoor.TU
open Go.RowKit Go.Proofs.YtjckhhecnebmmaaGreatDoorW.PrintWords Go.Proofs.YtjckhhecnebmmaaGreatDoorW.PrintLast Go.Proofs.YtjckhhecnebmmaaGreatDoorW.PrintMore Go.Proofs.YtjckhhecnebmmaaGreatDoor.QAll
attribute [local go_sem] max2_int min2_int max_two min_two max_three min_three max_four min_four
set_option linter.unusedVariables false
def SBool (v:Value):Prop:=∃ x,v=.bool x
theorem zero4 (w:World):(zeroValue 4).run Tryz.prog w=.ok (.bool false) w:=Tryz.zeroValue4 w
def addU (out:List Int) (x:Int):List Int:=if x∈out then out else out++[x]
def parRaw (us:List (List Int)) (ms:List Int):List Int:=(ms.flatMap fun m=>us.getD m.toNat []).foldl addU []
def par (S:St) (id:Int):List Int:=sortL (parRaw S.us (mem S.p id))
theorem addU_mem {out:List Int} {x y:Int} (h:y∈addU out x):y∈out∨y=x:=by
 unfold addU at h
 split at h
 ·exact .inl h
 ·simpa using h
theorem foldU_mem {l:List Int}:∀ {out:List Int} {y:Int},y∈l.foldl addU out→y∈out∨y∈l:=by
 induction l with
 | nil=>intro out y h;exact .inl h
 | cons a l ih =>
  intro out y h
  rcases ih h with h1 | h1
  ·rcases addU_mem h1 with h2 | h2
   ·exact .inl h2
   ·exact .inr (by simp [h2])
  ·exact .inr (by simp [h1])
theorem pick_range (f:Int→Bool):∀ (n:Nat),∀ x∈pick f n,0≤x∧x < n:=by
 intro n
 induction n with
 | zero=>intro x h;simp [pick]at h
 | succ n ih =>
  intro x h
  simp only [pick]at h
  split at h
  ·rcases List.mem_append.1 h with h | h
   ·have:=ih x h;omega
   ·have:x=n:=by simpa using h
    omega
  ·have:=ih x h;omega
theorem cell_lt {w:World} {b i:Nat} {v:Value} (h:w.cell? ⟨b,i,none⟩=some v):b < w.heap.size:=World.block_lt_of_cell? w ⟨b,i,none⟩ h
theorem mem_length {p:List Int} {x:Int}:(mem p x).length≤p.length:=by
 unfold mem
 split
 ·exact pick_length _ _
 ·simp
theorem mem_range {p:List Int} {x:Int}:∀ m∈mem p x,0≤m∧m < p.length:=by
 intro m h
 unfold mem at h
 split at h
 ·exact pick_range _ _ m h
 ·simp at h
theorem UsersRow.at {w:World} {o:Own} {t n c:Nat} {A:Option Addr} {us:List (List Int)} (h:UsersRow w o t (.slice A n c) us) (i:Int) (h0:0≤i) (h1:i < us.length) :
  ∃ bl r u,A=some ⟨bl,0,none⟩∧us[i.toNat]?=some u∧o bl=t∧w.cell? ⟨bl,i.toNat,none⟩=some (SL.v r)∧w.frozen? ⟨bl,i.toNat,none⟩=false∧Row (Kd.int .i64) 3 w o (t+1) r.v u:=by
 obtain ⟨rs,h2,h3,h4,h5⟩:=h
 have hil:i.toNat < rs.length:=by omega
 obtain ⟨bl,cap,he,_,_,_⟩:=Kd.R_form h2 (by omega)
 injection he with he1 he2 he3
 subst he1
 subst he2
 obtain ⟨cs,hcl,hM,hcc,hcf⟩:=Kd.R_elem h2 ⟨none,0,0⟩ i h0 (by omega)
 have hg:rs.getD i.toNat ⟨none,0,0⟩=rs[i.toNat]:=by rw [List.getD_eq_getElem?_getD,List.getElem?_eq_getElem hil];rfl
 rw [hg]at hM
 obtain rfl:cs=_:=hM
 have hu:us[i.toNat]?=some (us[i.toNat]'(by omega)):=List.getElem?_eq_getElem _
 refine ⟨bl,rs[i.toNat],us[i.toNat]'(by omega),rfl,hu,h2.own bl rfl,?_,?_,h4 i.toNat _ _ (List.getElem?_eq_getElem hil) hu⟩
 ·have:=hcc 0 _ rfl
  rw [show i.toNat * kSL.sz+0=i.toNat from by show i.toNat * 1+0=_;omega]at this
  exact this
 ·have:=hcf 0
  rw [show i.toNat * kSL.sz+0=i.toNat from by show i.toNat * 1+0=_;omega]at this
  exact this
structure InPar (w wr:World) (o:Own) (mp:Nat) (vo vm:Value) (ms out:List Int) (n:Nat):Prop where
 fr:Fr (fun x=>0 < x) w (fun _=>0) wr o
 row:Row (Kd.int .i64) 3 wr o 2 vo out
 mems:Row (Kd.int .i64) 3 wr o 1 vm ms
 own:o mp=3
 map:∃ F,GMap 3 SBool (.bool false) wr mp n F∧∀ x,I64 x→F (li x)=if x∈out then some (.bool true)else none
theorem InPar.below {w wr:World} {o:Own} {mp:Nat} {vo vm:Value} {ms out:List Int} {n:Nat} (h:InPar w wr o mp vo vm ms out n):Below w.heap.size w wr:=h.fr.toBelow (Nat.le_refl _) (fun _ _ h=>Nat.lt_irrefl 0 h)
set_option maxHeartbeats 6400000 in
set_option maxRecDepth 20000 in
theorem parents_calls {b cb:Nat} {w:World} {o:Own} {C:Cl} {S:St} (H:CoreAt b w o cb C S) (hS:Fine S) (id:Int) :
  Calls Tryz.prog 39 #[.pointer (some ⟨cb,0,none⟩),.int .i64 id] w fun e w'=>∃ v,e=.returned v∧Kd.R (Kd.int .i64) 3 w' w.heap.size (fun _=>True) v (par S id)∧Below w.heap.size w w':=by
 obtain ⟨sg,vn,vk,vu,eg,tg,fg,mv,vt,vm⟩:=C
 have hmm:∀ w:World,(Instr.makeMap 111 none).run Tryz.prog w=.ok (.map (some w.heap.size)) (w.alloc (.map #[] 0)):=fun _=>rfl
 have hb2:Below w.heap.size w ((w.alloc (.map #[] 0)).alloc (.cells #[] 3)):=(below_alloc (Below.refl w.heap.size w) _).alloc (by simp) _
 have H2:=H.fr (((Kp.refl (fun _=>False) w o).alloc (.map #[] 0)).alloc (.cells #[] 3)) (fun _ _ h=>h) (fun h=>h)
 have hmem:=members_calls H2.sets.uf hS.pl hS.well id
 have c0:((w.alloc (.map #[] 0)).alloc (.cells #[] 3)).cell? ⟨cb,0,none⟩=some (.pointer (some ⟨sg,0,none⟩)):=(blk_cell H2.blk.1 0).trans rfl
 have hsz:((w.alloc (.map #[] 0)).alloc (.cells #[] 3)).heap.size=w.heap.size+2:=by simp
 have hI0:∀ w1 vm1,Below (w.heap.size+2) ((w.alloc (.map #[] 0)).alloc (.cells #[] 3)) w1→Kd.R (Kd.int .i64) 3 w1 (w.heap.size+2) (fun _=>True) vm1 (mem S.p id)→∃ o1,InPar w w1 o1 w.heap.size (.slice (some ⟨w.heap.size+1,0,none⟩) 0 0) vm1 (mem S.p id) [] 0:=by
  intro w1 vm1 hb hr
  have f1:=((Fr.start (fun x=>0 < x) w (fun _=>0) 3 (.inr (by omega))).alloc (.map #[] 0)).renew 2 (.inr (by omega))
  have f2:=(f1.alloc (.cells #[] 3)).renew 1 (.inr (by omega))
  rw [hsz,World.size_alloc]at f2
  have f3:=f2.below (hsz ▸ hb)
  have hlt:w.heap.size < ((w.alloc (.map #[] 0)).alloc (.cells #[] 3)).heap.size:=by rw [hsz];omega
  refine ⟨_,f3,?_,Kd.R_reok rfl (Kd.R_lower hr (Nat.zero_le _)) (fun k hk=>Own.from_ge (Kd.R_base hr k hk)),by rw [Own.from_lt (by omega),Own.from_lt (by omega),Own.from_ge (by omega)],_,((GMap.made 3 SBool (.bool false) w).at ?_),fun x hx=>by simp⟩
  ·have e:=Row.empty (Kd.int .i64) 3 (w.alloc (.map #[] 0)) (fun _=>0) 2
   rw [World.size_alloc]at e
   have e2:Row (Kd.int .i64) 3 ((w.alloc (.map #[] 0)).alloc (.cells #[] 3)) _ 2 _ []:=e
   exact Kd.R_reok rfl (Kd.R_step e2 (fun k _ hk=>hb.block k (by rw [hsz]at hk;exact hk))) (fun k hk=>by
    have:=ob_eq hk
    subst this
    rw [Own.from_lt (by omega),Own.from_ge (by omega)])
  ·exact (hb.block _ (by omega)).trans (Below.heap_alloc _ _ _ (by simp))
 rw [hsz]at hmem
 have HH:=Lib.hid H
 have HS:=Lib.hid hS
 have HI0:=Lib.hid hI0
 have HMR:=Lib.hid (fun m hm=>mem_range (p:=S.p) (x:=id) m hm)
 have HMS:=Lib.hid (show (mem S.p id).length≤600 by have:=mem_length (p:=S.p) (x:=id);have:=hS.hp;have:=hS.few;omega)
 have hpar:par S id=sortL (((mem S.p id).flatMap fun m=>S.us.getD m.toNat []).foldl addU []):=rfl
 rw [hpar]
 clear H hS hI0 H2 hsz hb2 hpar
 generalize mem S.p id=ms at *
 go_enter Tryz.func39,Tryz.ntmps39
 go_wp2_with fail
 refine hmem.mono ?_
 rintro e w1 ⟨vm1,rfl,hr1,hb1⟩
 obtain ⟨o1,hI1⟩:=HI0.out w1 vm1 hb1 hr1
 obtain ⟨A1,k1,rfl⟩:=hI1.mems.slice
 have HI1:=Lib.hid hI1
 clear hmem hr1 hb1 hI1 c0 hmm
 go_wp2
 go_loopw [6,20] (fun vo i wr=>∃ (k:Nat) (out:List Int) (A:Option Addr) (c:Nat),k≤ms.length∧vo=.slice A out.length c∧i=.int .i64 k∧Hid (∃ or,InPar w wr or w.heap.size (.slice A out.length c) (.slice A1 ms.length k1) ms out out.length)∧Hid (out=((ms.take k).flatMap fun m=>S.us.getD m.toNat []).foldl addU [])∧Hid (out.length≤600 * k)) (fun _ i _=>ms.length - (intOf i).toNat)
 case atStart=>exact ⟨0,[],_,_,Nat.zero_le _,rfl,rfl,⟨o1,HI1.out⟩,rfl,Nat.le_refl _⟩
 case round =>
  obtain ⟨k,out,A,c,hk,rfl,rfl,⟨or,hI⟩,hout,hol⟩:=hrel
  clear HI1
  have HI:=Lib.hid hI
  have HO:=Lib.hid hout
  have HOL:=Lib.hid hol
  clear hI hout hol
  have hms0:ms.length≤600:=HMS.out
  by_cases hlt:k < ms.length
  ·have hHr:=HH.out.fr ((Kp.refl (fun _=>False) w o).below HI.out.below) (fun _ _ h=>h) (fun h=>h)
   have hMk:ms.getD k 0∈ms:=by rw [List.getD_eq_getElem?_getD,List.getElem?_eq_getElem hlt];exact List.getElem_mem _
   have hmr:=HMR.out _ hMk
   obtain ⟨bm,cm,hvm,_,_,_⟩:=Kd.R_form HI.out.mems (by omega)
   injection hvm with hvm1 hvm2 hvm3
   subst hvm1
   obtain ⟨hcm,_⟩:=Kd.R_celln 0 HI.out.mems (k:Int) (by omega) (by omega)
   have e0:rdOf (0:Int) ms (k:Int)=ms.getD k 0:=by unfold rdOf;rw [Int.toNat_natCast]
   rw [e0,Int.toNat_natCast]at hcm
   obtain ⟨Au,cu,hvu⟩:=HH.out.users.slice
   simp only at hvu
   subst hvu
   have hur:=HH.out.users
   simp only at hur
   have hpl:=HS.out.hp
   have hul:=HS.out.hu
   obtain ⟨bl,r,u,rfl,hgu,_,hcu0,_,hru⟩:=hur.at (ms.getD k 0) hmr.1 (by omega)
   obtain ⟨Ar,nr,cr⟩:=r
   have hvr:SL.v ⟨Ar,nr,cr⟩=.slice Ar nr cr:=rfl
   rw [hvr]at hcu0 hru
   have hcu:=(HI.out.below.cell (p:=⟨bl,(ms.getD k 0).toNat,none⟩) (cell_lt hcu0)).trans hcu0
   obtain ⟨Ax,cx,hx⟩:=hru.slice
   injection hx with hx1 hx2 hx3
   subst hx2
   have hum:u∈S.us:=List.mem_of_getElem? hgu
   have hu6:=HS.out.ul u hum
   have HUR:=Lib.hid (HS.out.ur u hum)
   have few:=HS.out.few
   have c3:wr.cell? ⟨cb,3,none⟩=some (.slice (some ⟨bl,0,none⟩) S.us.length cu):=(blk_cell hHr.blk.1 3).trans rfl
   have hgd:S.us.getD (ms.getD k 0).toNat []=u:=by rw [List.getD_eq_getElem?_getD,hgu];rfl
   have HT:=Lib.hid (show ((ms.take (k+1)).flatMap fun m=>S.us.getD m.toNat []).foldl addU []=u.foldl addU out by
    rw [HO.out,List.take_succ_eq_append_getElem hlt,List.flatMap_append,List.foldl_append]
    have e:ms[k]=ms.getD k 0:=by rw [List.getD_eq_getElem?_getD,List.getElem?_eq_getElem hlt];rfl
    simp only [List.flatMap_cons,List.flatMap_nil,List.append_nil,e,hgd])
   have i0:=hmr.1
   have i1:ms.getD k 0 < (S.us.length:Int):=by omega
   have HRU:=Lib.hid hru
   clear hHr hMk hmr hvm2 hvm3 e0 hur hru hgu hum hgd hx1 hx3 hcu0
   generalize ms.getD k 0=m at *
   go_wp2
   go_loopw [6,32] (fun vo i w2=>∃ (j:Nat) (out2:List Int) (A2:Option Addr) (c2:Nat),j≤u.length∧vo=.slice A2 out2.length c2∧i=.int .i64 j∧Hid (∃ or2,InPar w w2 or2 w.heap.size (.slice A2 out2.length c2) (.slice (some ⟨bm,0,none⟩) ms.length k1) ms out2 out2.length)∧Hid (out2=(u.take j).foldl addU out)∧Hid (out2.length≤600 * k+j)) (fun _ i _=>u.length - (intOf i).toNat)
   case atStart=>exact ⟨0,out,_,_,Nat.zero_le _,rfl,rfl,⟨_,HI.out⟩,rfl,HOL.out⟩
   case round =>
    obtain ⟨j,out2,A2,c2,hj,rfl,rfl,⟨or2,hI2⟩,hout2,hol2⟩:=hrel
    have HI2:=Lib.hid hI2
    have HO2:=Lib.hid hout2
    have HOL2:=Lib.hid hol2
    clear hI2 hout2 hol2 c3 hcm hcu
    by_cases hlt2:j < u.length
    ·have hru2:=HRU.out.fr ((Kp.refl (fun _=>False) w o).below HI2.out.below) (fun h=>h)
     obtain ⟨br,cc,hv,_,_,_⟩:=Kd.R_form hru2 (by omega)
     injection hv with hv1 hv2 hv3
     subst hv1
     obtain ⟨hcx,_⟩:=Kd.R_celln 0 hru2 (j:Int) (by omega) (by omega)
     have e0:rdOf (0:Int) u (j:Int)=u.getD j 0:=by unfold rdOf;rw [Int.toNat_natCast]
     rw [e0,Int.toNat_natCast]at hcx
     have hxm:u.getD j 0∈u:=by rw [List.getD_eq_getElem?_getD,List.getElem?_eq_getElem hlt2];exact List.getElem_mem _
     have hxr:=HUR.out _ hxm
     have hxi:I64 (u.getD j 0):=by unfold I64;omega
     have HT3:=Lib.hid (show (u.take (j+1)).foldl addU out=addU out2 (u.getD j 0) by
      rw [HO2.out,List.take_succ_eq_append_getElem hlt2,List.foldl_append]
      have e:u[j]=u.getD j 0:=by rw [List.getD_eq_getElem?_getD,List.getElem?_eq_getElem hlt2];rfl
      simp only [List.foldl_cons,List.foldl_nil,e])
     obtain ⟨F,hG,hF⟩:=HI2.out.map
     have hFx:=hF _ hxi
     have hlk:=((GMap.look keyedI Tryz.underlying111 zero4 ⟨false,rfl⟩ (keyI hxi) hG).2 wr rfl).2
     rw [hFx]at hlk
     have hol3:out2.length≤600 * k+j:=HOL2.out
     have hmx:maxLen=9223372036854775807:=rfl
     have HXI:=Lib.hid hxi
     have HF:=Lib.hid hF
     have HG:=Lib.hid hG
     clear hru2 hv2 hv3 e0 hxm hxr hxi hFx hF hG hmx
     generalize u.getD j 0=x at *
     by_cases hin:x∈out2
     ·rw [if_pos hin]at hlk
      simp only [Option.getD_some]at hlk
      have HIN:=Lib.hid hin
      clear hin
      go_wp2
      go_roundw
      case rel=>exact ⟨j+1,out2,A2,c2,by omega,rfl,by go_num,⟨_,HI2.out⟩,by rw [HT3.out];show out2=_;unfold addU;rw [if_pos HIN.out],by show out2.length≤600 * k+(j+1);omega⟩
      case measure=>first | (simp [intOf];done) | (simp [intOf];omega)
     ·rw [if_neg hin]at hlk
      simp only [Option.getD_none]at hlk
      have HIN:=Lib.hid hin
      clear hin
      obtain ⟨w3,hru3,hG3,hgr3⟩:=GMap.update keyedI Tryz.underlying111 (keyI HXI.out) HG.out (by have hmx:maxLen=9223372036854775807:=rfl;omega) (v:=.bool true) ⟨true,rfl⟩
      have kp3:=Lib.hid (show Kp (·=3) wr or2 w3 or2 from (Kp.refl _ wr or2).grown hgr3 (fun q e=>.inl (by rw [← Option.some.inj e];exact HI2.out.own)))
      have F3:=Lib.hid (HI2.out.fr.grown hgr3 (fun q e=>.inl (by rw [← Option.some.inj e,HI2.out.own];omega)))
      have R3:=Lib.hid (HI2.out.row.fr kp3.out (by omega))
      have G3:=Lib.hid hG3
      have GR3:=Lib.hid hgr3
      clear hG3 hgr3
      go_wp2_with ((with_reducible refine gate_builtin (b:=.append) (xs:=#[.tmp 42,.tmp 44]) rfl ?_);at_builtin;refine row_append (Kd.int .i64) F3.out 2 (by omega) rfl (.tmp 42) (.tmp 44) 26 3 (.int .i64 0) 8 rfl Tryz.underlying26 inf3 rfl (by decide) (by omega) (.slice A2 out2.length c2) out2 x [.int .i64 x] rfl rfl ?aP R3.out ?aL ?_;(case aP=>exact rfl);(case aL=>omega);intro A4 c4 w4 h4 f4 k4;have H4:=Lib.hid h4;have F4:=Lib.hid f4;have K4:=Lib.hid k4;clear h4 f4 k4)
      go_roundw
      case rel =>
       refine ⟨j+1,out2++[x],A4,c4,by omega,?_,by go_num,⟨_,F4.out,?_,(HI2.out.mems.fr kp3.out (by omega)).fr K4.out (by omega),?_,?_⟩,?_,?_⟩
       ·simp
       ·simp only [List.length_append,List.length_singleton];exact H4.out
       ·exact (K4.out.own _ G3.out.lt).trans HI2.out.own
       ·refine ⟨updF F (li x) (some (.bool true)),?_,fun y hy=>?_⟩
        ·simp only [List.length_append,List.length_singleton]
         exact G3.out.at (K4.out.block _ G3.out.lt (by rw [HI2.out.own];omega))
        ·unfold updF
         by_cases e:y=x
         ·subst e;rw [if_pos rfl,if_pos (by simp)]
         ·rw [if_neg (fun h=>e (by unfold li at h;injection h)),HF.out y hy]
          by_cases h2:y∈out2
          ·rw [if_pos h2,if_pos (by simp [h2])]
          ·rw [if_neg h2,if_neg (by simp [h2,e])]
       ·rw [HT3.out];show out2++[x]=_;unfold addU;rw [if_neg HIN.out]
       ·show (out2++[x]).length≤600 * k+(j+1);simp;omega
      case measure=>first | (simp [intOf];done) | (simp [intOf];omega)
    ·have hjl:j=u.length:=by omega
     subst hjl
     rw [List.take_length]at HO2
     go_wp2
     go_roundw
     case rel=>exact ⟨k+1,out2,A2,c2,by omega,rfl,by go_num,⟨_,HI2.out⟩,by rw [HT.out];exact HO2.out,by have:out2.length≤600 * k+u.length:=HOL2.out;show out2.length≤600 * (k+1);omega⟩
     case measure=>first | (simp [intOf];done) | (simp [intOf];omega)
  ·have hkl:k=ms.length:=by omega
   subst hkl
   rw [List.take_length]at HO
   have ho3:out.length≤600 * ms.length:=HOL.out
   have hm6:ms.length≤600:=HMS.out
   have hso:=sorted_calls (w:=wr) (B:=w.heap.size) (v:=.slice A out.length c) (xs:=out) (Kd.R_raise (b:=0) (fun _ _ _ _ h=>h) (Kd.R_mono HI.out.row (fun _ _=>trivial)) (fun q hq=>by
    rcases Nat.lt_or_ge q w.heap.size with h | h
    ·have h1:=HI.out.row.own q hq
     have h2:=HI.out.fr.own q h
     rw [h1]at h2
     omega
    ·exact h)) (by omega)
   go_wp2_with fail
   refine hso.mono ?_
   rintro e w3 ⟨rfl,hr3,hb3⟩
   have HR3:=Lib.hid hr3
   have HB3:=Lib.hid hb3
   clear hr3 hb3 hso
   go_wp2
   go_ret
   exact ⟨_,rfl,by rw [← HO.out];exact HR3.out,HI.out.below.trans HB3.out⟩
end Go.Proofs.YtjckhhecnebmmaaGreatDoor.TU
end

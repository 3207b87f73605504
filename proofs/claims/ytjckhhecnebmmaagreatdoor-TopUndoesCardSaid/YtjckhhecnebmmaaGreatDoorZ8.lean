/- Steps towards the law TopUndoes; words printed by the kit, and printed texts, are cut to what is used, and spaces are left out. No condition. -/
import Derived.Test.YtjckhhecnebmmaaGreatDoorZ7
import Derived.Test.YtjckhhecnebmmaaGreatDoorZ5
import Derived.Deep.RegionHeld3
set_option linter.unusedVariables false
set_option linter.unusedSimpArgs false
section
namespace Go.Proofs.YtjckhhecnebmmaaGreatDoor.TU
open Go.RowKit Go.Proofs.YtjckhhecnebmmaaGreatDoorW.PrintWords Go.Proofs.YtjckhhecnebmmaaGreatDoorW.PrintLast Go.Proofs.YtjckhhecnebmmaaGreatDoorW.PrintMore Go.Proofs.YtjckhhecnebmmaaGreatDoor.QAll
attribute [local go_sem] max2_int min2_int max_two min_two max_three min_three max_four min_four
set_option linter.unusedVariables false
def Own.put (o:Own) (r:Option Nat) (t:Nat):Own:=fun k=>if r=some k then t else o k
theorem Own.put_ne {o:Own} {r:Option Nat} {t k:Nat} (h:r≠some k):o.put r t k=o k:=if_neg h
theorem Own.put_eq {o:Own} {k t:Nat}:o.put (some k) t k=t:=if_pos rfl
theorem ForAt.retag {b g:Nat} {w:World} {o o':Own} {L:List S117} (hb:0 < b) (h:ForAt b w o g L) (ho:∀ k,o k≠0→o' k=o k):ForAt b w o' g L:=by
 have up:∀ k t,o k=t→t≠0→o' k=t:=fun k t e ht=>(ho k (by omega)).trans e
 obtain ⟨vl,mn,mu,Fn,Fu,d,HB,HI,HA⟩:=h
 refine ⟨vl,mn,mu,Fn,Fu,d,⟨⟨HB.blk.1,up _ _ HB.blk.2 (by omega)⟩,Kd.R_mono HB.lnk (fun k hk=>up _ _ hk (by omega)),up _ _ HB.omn (by omega),up _ _ HB.omu (by omega),HB.nmap,HB.umap,HB.up,⟨fun k v hk=>?_,HB.near.apart⟩⟩,HI,HA⟩
 obtain ⟨xs,h1,h2,h3⟩:=HB.near.row k v hk
 exact ⟨xs,h1,fun q hq=>up _ _ (h2 q hq) (by omega),h3⟩
theorem Acyc.drop {L:List S117} (h:Acyc L):∀ k,Acyc (L.drop k):=by
 intro k
 induction k generalizing L with
 | zero=>exact h
 | succ k ih =>
  cases L with
  | nil=>exact h
  | cons a l=>exact ih h.2
def FUndoPost (b g:Nat) (w:World) (o:Own) (n:Nat) (e:Ending) (w':World):Prop:=∃ o' L' r,e=.returned (.bool r)∧ForAt b w' o' g L'∧L'.length≤n∧Fr (ForM b) w o w' o'
set_option maxRecDepth 20000 in
set_option maxHeartbeats 3200000 in
theorem forest_undo {b g:Nat} {w:World} {o:Own} {L:List S117} (hb0:0 < b) (H:ForAt b w o g L) (hL:L.length≤900) (n:Nat) (hn:n≤1000) :
  Calls Tryz.prog 45 #[.pointer (some ⟨g,0,none⟩),.int .i64 n] w (FUndoPost b g w o n):=by
 by_cases hgt:L.length < n
 ·obtain ⟨A,c,mn,mu,hb,hog⟩:=H.cells
  have h0:w.cell? ⟨g,0,none⟩=some (.bool true):=(blk_cell hb 0).trans rfl
  have h1:w.cell? ⟨g,1,none⟩=some (.slice A L.length c):=(blk_cell hb 1).trans rfl
  have HH:=Lib.hid H
  clear hb hog H
  go_enter Tryz.func45,Tryz.ntmps45
  go_wp2
  go_ret
  exact ⟨_,L,false,rfl,HH.out.fr ((Kp.refl (fun _=>False) w o).renew 0) (fun _ _ h=>h),by omega,Fr.start (ForM b) w o 0 (.inl rfl)⟩
 ·obtain ⟨vl,mn,mu,Fn,Fu,d,HB,HI,HA⟩:=H
  obtain ⟨A,c,hvl,hlc,hC⟩:=Kd.R_reads HB.lnk
  rw [List.length_reverse]at hvl hC hlc
  subst hvl
  have hb:=HB.blk
  have h0:w.cell? ⟨g,0,none⟩=some (.bool true):=(blk_cell hb.1 0).trans rfl
  have h1:w.cell? ⟨g,1,none⟩=some (.slice A L.length c):=(blk_cell hb.1 1).trans rfl
  have h2:=blk_frozen hb.1 1
  have h3:=blk_frozen hb.1 2
  have h4:=blk_frozen hb.1 3
  have c2:w.cell? ⟨g,2,none⟩=some (.map (some mn)):=(blk_cell hb.1 2).trans rfl
  have c3:w.cell? ⟨g,3,none⟩=some (.map (some mu)):=(blk_cell hb.1 3).trans rfl
  have hgl:=blk_lt hb.1
  have hmm:∀ w:World,(Instr.makeMap 93 none).run Tryz.prog w=.ok (.map (some w.heap.size)) (w.alloc (.map #[] 0)):=fun _=>rfl
  have hmn:∀ w:World,(Instr.makeMap 94 none).run Tryz.prog w=.ok (.map (some w.heap.size)) (w.alloc (.map #[] 0)):=fun _=>rfl
  have q1:(n:Int)≤L.length:=by omega
  have q2:(L.length:Int)≤c:=by omega
  have HBB:=Lib.hid hb
  have HL:=Lib.hid HB.lnk
  have HII:=Lib.hid HI
  have HAA:=Lib.hid HA
  clear hb HB HI HA hC
  go_enter Tryz.func45,Tryz.ntmps45
  go_wp2
  have hE:k117.E=[]:=rfl
  generalize hr:(Value.slice A L.length c).ownBlock=r
  have hrw:∀ k,r=some k→o k=b+1∧k < w.heap.size:=fun k e=>by rw [← hr]at e;have:=(Kd.R_bound HL.out).1 k e;exact ⟨this.1,this.2.2.1⟩
  have hK0:Row k117 117 w (o.put r 0) 0 (.slice A n c) (L.reverse.take n):=Kd.R_reok hE (Row.take HL.out (by simpa using hgt)) (fun k hk=>by
   have:r=some k:=by rw [← hr];cases A with | none=>cases hk | some a=>simpa [Value.ownBlock]using hk
   subst this
   exact Own.put_eq)
  have hgr:r≠some g:=fun e=>by have:=(hrw g e).1;have:=HBB.out.2;omega
  have hog:(o.put r 0) g=b:=(Own.put_ne hgr).trans HBB.out.2
  have f1:Fr (ForM b) w (o.put r 0) (((((w.setCell ⟨g,1,none⟩ (.slice none 0 0)).setCell ⟨g,2,none⟩ (.map (some w.heap.size))).setCell ⟨g,3,none⟩ (.map (some (w.heap.size+1)))).alloc (.map #[] 0)).alloc (.map #[] 0)) (((o.put r 0).from_ w.heap.size (b+2)).from_ (w.heap.size+1) (b+3)):=by
   have e1:=((((Fr.start (ForM b) w (o.put r 0) (b+2) (.inr (.inr (.inr (.inl rfl))))).setCell ⟨g,1,none⟩ (.slice none 0 0) (.inl (by rw [Own.from_lt hgl,hog];exact .inl rfl))).setCell ⟨g,2,none⟩ (.map (some w.heap.size)) (.inl (by rw [Own.from_lt hgl,hog];exact .inl rfl))).setCell ⟨g,3,none⟩ (.map (some (w.heap.size+1))) (.inl (by rw [Own.from_lt hgl,hog];exact .inl rfl))).alloc (.map #[] 0)
   have e2:=(e1.renew (b+3) (.inr (.inr (.inr (.inr (.inl rfl)))))).alloc (.map #[] 0)
   have hz:((((w.setCell ⟨g,1,none⟩ (.slice none 0 0)).setCell ⟨g,2,none⟩ (.map (some w.heap.size))).setCell ⟨g,3,none⟩ (.map (some (w.heap.size+1)))).alloc (.map #[] 0)).heap.size=w.heap.size+1:=by simp [World.setCell]
   rw [hz]at e2
   exact e2
  have hs3:(((w.setCell ⟨g,1,none⟩ (.slice none 0 0)).setCell ⟨g,2,none⟩ (.map (some w.heap.size))).setCell ⟨g,3,none⟩ (.map (some (w.heap.size+1)))).heap.size=w.heap.size:=by simp [World.setCell]
  have F1:ForAt b (((((w.setCell ⟨g,1,none⟩ (.slice none 0 0)).setCell ⟨g,2,none⟩ (.map (some w.heap.size))).setCell ⟨g,3,none⟩ (.map (some (w.heap.size+1)))).alloc (.map #[] 0)).alloc (.map #[] 0)) (((o.put r 0).from_ w.heap.size (b+2)).from_ (w.heap.size+1) (b+3)) g []:=by
   refine ForBase.made b _ _ _ w.heap.size (w.heap.size+1) _ ⟨blk_alloc (blk_alloc (blk_put (blk_put (blk_put HBB.out.1 1 _ rfl) 2 _ rfl) 3 _ rfl) _) _,?_⟩ (Row.nil _ _ _ _ _) ?_ ?_ ?_ ?_
   ·rw [Own.from_lt (by omega),Own.from_lt hgl,hog]
   ·rw [Own.from_lt (by omega),Own.from_ge (by omega)]
   ·rw [Own.from_ge (by omega)]
   ·have:=GMap.made 3 SRow (.slice none 0 0) (((w.setCell ⟨g,1,none⟩ (.slice none 0 0)).setCell ⟨g,2,none⟩ (.map (some w.heap.size))).setCell ⟨g,3,none⟩ (.map (some (w.heap.size+1))))
    rw [hs3]at this
    exact this.at (Below.heap_alloc _ _ _ (by simp [World.setCell]))
   ·have:=GMap.made 3 SInt (.int .i64 0) ((((w.setCell ⟨g,1,none⟩ (.slice none 0 0)).setCell ⟨g,2,none⟩ (.map (some w.heap.size))).setCell ⟨g,3,none⟩ (.map (some (w.heap.size+1)))).alloc (.map #[] 0))
    rw [World.size_alloc,hs3]at this
    exact this
  have K1:=hK0.fr f1.kp (fun h=>by unfold ForM at h;omega)
  have HF1:=Lib.hid f1
  have HFA:=Lib.hid F1
  have HK1:=Lib.hid K1
  have HR:=Lib.hid hrw
  have HGR:=Lib.hid hgr
  clear f1 F1 K1 hK0 hrw hgr hog hs3 hmm hmn hE h0 h1 h2 h3 h4 c2 c3 hr
  generalize (((o.put r 0).from_ w.heap.size (b+2)).from_ (w.heap.size+1) (b+3))=o4 at *
  go_loopg [49] n (fun kq i w'=>∃ k:Nat,k+kq=n∧i=.int .i64 k∧Hid (∃ ow,ForAt b w' ow g (L.reverse.take k).reverse∧Row k117 117 w' ow 0 (.slice A n c) (L.reverse.take n)∧Fr (ForM b) w (o.put r 0) w' ow))
  case atStart=>exact ⟨0,by omega,rfl,⟨o4,by simpa using HFA.out,HK1.out,HF1.out⟩⟩
  case round =>
   obtain ⟨k,hk,rfl,ow,hA,hRw,hFr⟩:=hrel
   have HA:=Lib.hid hA
   have HW:=Lib.hid hRw
   have HV:=Lib.hid hFr
   clear hA hRw hFr HFA HF1 HK1
   cases gk with
   | zero =>
    have hkn:k=n:=by omega
    subst hkn
    clear hk
    go_wp2
    go_ret
    refine ⟨ow.put r (b+1),_,true,rfl,HA.out.retag hb0 (fun q hq=>Own.put_ne (fun e=>hq ?_)),by simp;omega,?_⟩
    ·subst e
     rw [HV.out.own q (HR.out q rfl).2]
     exact Own.put_eq
    ·refine ⟨HV.out.os,HV.out.tape,HV.out.output,HV.out.size,fun q hq=>?_,fun q hq hm=>?_,fun q hq=>?_⟩
     ·by_cases e:r=some q
      ·subst e
       exact Own.put_eq.trans (HR.out q rfl).1.symm
      ·rw [Own.put_ne e,HV.out.own q hq,Own.put_ne e]
     ·refine HV.out.block q hq ?_
      by_cases e:r=some q
      ·exact absurd (by rw [(HR.out q e).1];exact .inr (.inl rfl)) hm
      ·rw [Own.put_ne e];exact hm
     ·by_cases e:r=some q
      ·have:=(HR.out q e).2;omega
      ·rw [Own.put_ne e];exact HV.out.new q hq
   | succ k1 =>
    have hlt:k < n:=by omega
    have hlr:(L.reverse.take n).length=n:=by simp;omega
    have hkl:k < L.reverse.length:=by simp;omega
    obtain ⟨bl,cc,he,_,_,_⟩:=Kd.R_form HW.out (by omega)
    injection he with he1 he2 he3
    subst he1
    have hW:=HW.out
    obtain ⟨cs,hcl,hM,hcc,hcf⟩:=Kd.R_elem hW z117 (k:Int) (by omega) (by omega)
    have hgs:(L.reverse.take n).getD (k:Int).toNat z117=L.reverse[k]:=by
     rw [Int.toNat_natCast,List.getD_eq_getElem?_getD,List.getElem?_take_of_lt hlt,List.getElem?_eq_getElem hkl]
     rfl
    rw [hgs]at hM
    obtain rfl:=k117_openM hM
    have HM:=Lib.hid (show L.reverse[k]∈L from List.mem_reverse.1 (List.getElem_mem hkl))
    have HT:=Lib.hid (show (L.reverse.take (k+1)).reverse=L.reverse[k] :: (L.reverse.take k).reverse by rw [List.take_succ_eq_append_getElem hkl];simp)
    have HT2:=Lib.hid (show (L.reverse.take (k+1)).reverse=L.drop (L.length - (k+1)) by rw [List.take_reverse];simp)
    generalize L.reverse[k]=l at *
    have hc0:wr.cell? ⟨bl,k * 3,none⟩=some (.int .i64 l.f0):=hcc 0 _ rfl
    have hc1:wr.cell? ⟨bl,k * 3+1,none⟩=some (.int .i64 l.f1):=hcc 1 _ rfl
    have hc2:wr.cell? ⟨bl,k * 3+2,none⟩=some (.int .i64 l.f2):=hcc 2 _ rfl
    clear hcc hcf hM hcl hW hgs hlr hkl he2 he3
    have hA1:=HAA.out.drop (L.length - (k+1))
    rw [← HT2.out,HT.out]at hA1
    have HNE:=Lib.hid hA1.1
    have HI1:=Lib.hid (HII.out l HM.out)
    clear hA1
    have HLL:=Lib.hid (show (L.reverse.take k).reverse.length≤1000 by simp;omega)
    have kpa:=Lib.hid (((Kp.refl (fun _=>False) wr ow).renew 0).alloc (.cells #[.int .i64 l.f0,.int .i64 l.f1,.int .i64 l.f2] 117))
    have fra:=Lib.hid ((HV.out.renew 0 (.inl rfl)).alloc (.cells #[.int .i64 l.f0,.int .i64 l.f1,.int .i64 l.f2] 117))
    go_wp2_with fail
    refine (add_calls hb0 (HA.out.fr kpa.out (fun _ _ h=>h)) HLL.out l HI1.out.1 HI1.out.2 HNE.out).mono ?_
    rintro e w2 ⟨rfl,o2,h2,f2⟩
    have H2:=Lib.hid h2
    have F2:=Lib.hid f2
    clear h2 f2
    go_wp2
    go_roundg k1
    case measure=>omega
    case rel =>
     refine ⟨k+1,by omega,by go_num,o2,?_,(HW.out.fr kpa.out id).fr F2.out.kp (fun h=>by unfold ForM at h;omega),fra.out.trans F2.out⟩
     rw [HT.out]
     exact H2.out
end Go.Proofs.YtjckhhecnebmmaaGreatDoor.TU
end
section
namespace Go.Proofs.YtjckhhecnebmmaaGreatDoor.TU
open Go.RowKit Go.Proofs.YtjckhhecnebmmaaGreatDoorW.PrintWords Go.Proofs.YtjckhhecnebmmaaGreatDoorW.PrintLast Go.Proofs.YtjckhhecnebmmaaGreatDoorW.PrintMore Go.Proofs.YtjckhhecnebmmaaGreatDoor.QAll
attribute [local go_sem] max2_int min2_int max_two min_two max_three min_three max_four min_four
set_option linter.unusedVariables false
def Fresh (w0 w:World) (va:Value) (xs:List Int):Prop:=∃ A c,va=.slice A xs.length c∧xs.length≤c∧(Kd.int .i64).C w A xs.length xs∧∀ a,A=some a→w0.heap.size≤a.block∧a.block < w.heap.size
def Held (w:World) (va:Value) (xs:List Int):Prop:=∃ A c,va=.slice A xs.length c∧xs.length≤c∧(Kd.int .i64).C w A xs.length xs
theorem Held.below {w w1:World} {va:Value} {xs:List Int} (h:Held w va xs) (hb:Below w.heap.size w w1):Held w1 va xs:=by
 obtain ⟨A,c,e,hl,hC⟩:=h
 exact ⟨A,c,e,hl,Kd.C_below hC hb⟩
theorem Fresh.held {w0 w:World} {va:Value} {xs:List Int} (h:Fresh w0 w va xs):Held w va xs:=by
 obtain ⟨A,c,e,hl,hC,_⟩:=h
 exact ⟨A,c,e,hl,hC⟩
theorem Fresh.of_own {w0 w:World} {va:Value} {xs:List Int} (h:w.ownsRow w0.heap.size 3 1 va xs.length (xs.map (Value.int .i64))):Fresh w0 w va xs:=by
 have hR:Kd.R (Kd.int .i64) 3 w w0.heap.size (fun _=>True) va xs:=Kd.R_of_own h (fun _ _=>trivial)
 obtain ⟨A,c,e,hl,hC⟩:=Kd.R_reads hR
 refine ⟨A,c,e,hl,hC,fun a ha=>?_⟩
 subst e ha
 exact ⟨own_base h a.block rfl,own_lt h a.block rfl⟩
theorem Fresh.below {w0 w w1:World} {va:Value} {xs:List Int} (h:Fresh w0 w va xs) (hb:Below w.heap.size w w1):Fresh w0 w1 va xs:=by
 obtain ⟨A,c,e,hl,hC,hA⟩:=h
 exact ⟨A,c,e,hl,Kd.C_below hC hb,fun a ha=>⟨(hA a ha).1,Nat.lt_of_lt_of_le (hA a ha).2 hb.size⟩⟩
theorem clone_calls {w:World} {va:Value} {xs:List Int} (h:Held w va xs) (hl:xs.length≤1000) :
  Calls Tryz.prog 69 #[va] w fun e w'=>∃ v',e=.returned v'∧w'.ownsRow w.heap.size 3 1 v' xs.length (xs.map (Value.int .i64))∧Below w.heap.size w w':=by
 obtain ⟨A,c,rfl,hlc,hC⟩:=h
 cases A with
 | none =>
  have hx:xs=[]:=by
   cases xs with
   | nil=>rfl
   | cons a l=>obtain ⟨ad,e,_⟩:=hC.2.2 (by simp);cases e
  subst hx
  refine (Tryz.slices_Clone_int_nil 0 c w).mono ?_
  rintro e w' ⟨rfl,rfl⟩
  exact ⟨_,rfl,World.ownsRow_nil _ _ _ _,Below.refl _ _⟩
 | some ad =>
  obtain ⟨b,off,sp⟩:=ad
  by_cases hx:xs=[]
  ·subst hx
   refine (Tryz.slices_Clone_int_zero ⟨b,off,sp⟩ c w).mono ?_
   rintro e w' ⟨v',rfl,h1,_,h2⟩
   exact ⟨v',rfl,h1,h2⟩
  ·have hpos:0 < xs.length:=List.length_pos_iff.2 hx
   have hat:∀ j,j < xs.length→w.cell? ((⟨b,off,sp⟩:Addr).add j)=some (.int .i64 (xs.getD j 0)):=fun j hj=>by
    obtain ⟨ad,e,hc⟩:=C_int_at hC j hj
    cases e
    exact hc
   have hsp:sp=none:=by
    have h0:=hat 0 hpos
    have:(⟨b,off,sp⟩:Addr).add 0=⟨b,off,sp⟩:=by simp [Addr.add]
    rw [this]at h0
    unfold World.cell? at h0
    cases sp with
    | none=>rfl
    | some q=>simp at h0;split at h0 <;> simp at h0
   subst hsp
   have hz:∀ j,j < xs.length→w.cell? ⟨b,off+j,none⟩=some (.int .i64 (xs.getD j 0)):=fun j hj=>by
    have:=hat j hj
    have e:(⟨b,off,none⟩:Addr).add j=⟨b,off+j,none⟩:=by unfold Addr.add;split <;> simp_all
    rwa [e]at this
   refine (Tryz.slices_Clone_int b off xs.length c xs w (Nat.le_refl _) (by omega) hz).mono ?_
   rintro e w' ⟨v',rfl,h1,_,h2⟩
   rw [List.take_length]at h1
   exact ⟨v',rfl,h1,h2⟩
def zNode:Array Value:=#[.int .i64 0,.int .i64 0,.int .u64 0,.string ⟨#[]⟩,.slice none 0 0]
theorem own_set_below {w:World} {base n size:Nat} {e:TypeId} {v:Value} {xs:List Value} (h:w.ownsRow base e size v n xs) (p:Addr) (hp:p.block < base) (u:Value):(w.setCell p u).ownsRow base e size v n xs :=
 own_move h (fun k hk=>Below.heap_setCell w p u k (by have:=own_base h k hk;omega))
theorem node_stored {w:World} {g:Nat} (h:w.heap[g]?=some (.cells zNode 56 (0,0))) (a b c d e:Value) :
  (((((w.setCell ⟨g,0,none⟩ a).setCell ⟨g,1,none⟩ b).setCell ⟨g,2,none⟩ c).setCell ⟨g,3,none⟩ d).setCell ⟨g,4,none⟩ e).heap[g]?=some (.cells #[a,b,c,d,e] 56 (0,0)) :=
 blk_put (cs:=#[a,b,c,d,.slice none 0 0]) (blk_put (cs:=#[a,b,c,.string ⟨#[]⟩,.slice none 0 0]) (blk_put (cs:=#[a,b,.int .u64 0,.string ⟨#[]⟩,.slice none 0 0]) (blk_put (cs:=#[a,.int .i64 0,.int .u64 0,.string ⟨#[]⟩,.slice none 0 0]) (blk_put h 0 a rfl) 1 b rfl) 2 c rfl) 3 d rfl) 4 e rfl
theorem own_sets {w w2:World} {o1 o2:Obj} {n size:Nat} {e:TypeId} {v:Value} {xs:List Value} {a0 a b c d f:Value} (h:w2.ownsRow ((w.alloc o1).alloc o2).heap.size e size v n xs) :
  ((((((w2.setCell ⟨w.heap.size,4,none⟩ a0).setCell ⟨w.heap.size+1,0,none⟩ a).setCell ⟨w.heap.size+1,1,none⟩ b).setCell ⟨w.heap.size+1,2,none⟩ c).setCell ⟨w.heap.size+1,3,none⟩ d).setCell ⟨w.heap.size+1,4,none⟩ f).ownsRow ((w.alloc o1).alloc o2).heap.size e size v n xs:=by
 have hb:((w.alloc o1).alloc o2).heap.size=w.heap.size+2:=by simp
 refine own_set_below (own_set_below (own_set_below (own_set_below (own_set_below (own_set_below h _ ?_ _) _ ?_ _) _ ?_ _) _ ?_ _) _ ?_ _) _ ?_ _ <;> (simp only;omega)
set_option maxRecDepth 20000 in
set_option maxHeartbeats 3200000 in
theorem canon_nil {w:World} (n:Nd) (va:Value) (hA:Held w va n.args) (hl:n.args.length≤1000) :
  Calls Tryz.prog 48 #[.agg (n.cells va),.nilFunc] w fun e w'=>∃ va',e=.returned (.agg (n.cells va'))∧Fresh w w' va' n.args∧Below w.heap.size w w':=by
 have hb2:Below w.heap.size w ((w.alloc (.cells (n.cells va) 56)).alloc (.cells zNode 56)):=(below_alloc (Below.refl w.heap.size w) _).alloc (by simp) _
 have hc:=clone_calls (hA.below hb2) hl
 have hbx:((w.alloc (.cells (n.cells va) 56)).alloc (.cells zNode 56)).heap[w.heap.size]?=some (.cells (n.cells va) 56 (0,0)):=blk_alloc (blk_new _ _) _
 have hrs:((w.alloc (.cells (n.cells va) 56)).alloc (.cells zNode 56)).heap[w.heap.size+1]?=some (.cells zNode 56 (0,0)):=by have:=blk_new (w.alloc (.cells (n.cells va) 56)) (.cells zNode 56);rwa [World.size_alloc]at this
 have HB:=Lib.hid hb2
 have HX:=Lib.hid hbx
 have HR:=Lib.hid hrs
 have q83:∀ w:World,(binOp .neq 83 .nilFunc .nilFunc).run Tryz.prog w=.ok (.bool false) w:=by intro w;kernel_rfl
 clear hA hb2 hbx hrs
 simp only [Nd.cells,zNode]at hc HB HX HR ⊢
 go_enter Tryz.func48,Tryz.ntmps48
 go_wp2_with (go_at_call 69;refine hc.mono ?_;rintro e w2 ⟨v2,rfl,ho2,hb2⟩;have HO2:=Lib.hid ho2;obtain ⟨A2,c2,hv2⟩:=own_slice ho2;subst hv2;have HB2:=Lib.hid hb2;have BX:=Lib.hid (blk_below HX.out hb2);have RS:=Lib.hid (blk_below HR.out hb2);have x0:w2.cell? ⟨w.heap.size,0,none⟩=some (.int .i64 n.op):=(blk_cell BX.out 0).trans rfl;have x1:w2.cell? ⟨w.heap.size,1,none⟩=some (.int .i64 n.width):=(blk_cell BX.out 1).trans rfl;have x2:w2.cell? ⟨w.heap.size,2,none⟩=some (.int .u64 n.val):=(blk_cell BX.out 2).trans rfl;have x3:w2.cell? ⟨w.heap.size,3,none⟩=some (.string n.name):=(blk_cell BX.out 3).trans rfl;have x4:w2.cell? ⟨w.heap.size,4,none⟩=some va:=(blk_cell BX.out 4).trans rfl;have y4:=blk_frozen BX.out 4;have r0:w2.cell? ⟨w.heap.size+1,0,none⟩=some (.int .i64 0):=(blk_cell RS.out 0).trans rfl;have r1:w2.cell? ⟨w.heap.size+1,1,none⟩=some (.int .i64 0):=(blk_cell RS.out 1).trans rfl;have r2:w2.cell? ⟨w.heap.size+1,2,none⟩=some (.int .u64 0):=(blk_cell RS.out 2).trans rfl;have r3:w2.cell? ⟨w.heap.size+1,3,none⟩=some (.string ⟨#[]⟩):=(blk_cell RS.out 3).trans rfl;have r4:w2.cell? ⟨w.heap.size+1,4,none⟩=some (.slice none 0 0):=(blk_cell RS.out 4).trans rfl;have s0:=blk_frozen RS.out 0;have s1:=blk_frozen RS.out 1;have s2:=blk_frozen RS.out 2;have s3:=blk_frozen RS.out 3;have s4:=blk_frozen RS.out 4;clear ho2 hb2)
 have hs1:=node_stored (blk_far RS.out (p:=⟨w.heap.size,4,none⟩) (by simp) (.slice A2 n.args.length c2)) (.int .i64 n.op) (.int .i64 n.width) (.int .u64 n.val) (.string n.name) (.slice A2 n.args.length c2)
 refine bodyPost_ret (results_cell_row rfl _ _ (w.heap.size+1) 56 #[.int .i64 n.op,.int .i64 n.width,.int .u64 n.val,.string n.name,.slice A2 n.args.length c2] (0,0) _ rfl hs1 Tryz.underlying56 rfl (by kernel_rfl)) rfl ?_
 refine ⟨_,rfl,Fresh.of_own (own_weaken (own_sets HO2.out) (by simp;omega)),?_⟩
 exact (((((HB.out.trans (HB2.out.mono (by simp;omega))).setCell (p:=⟨w.heap.size,4,none⟩) (Nat.le_refl _) _).setCell (p:=⟨w.heap.size+1,0,none⟩) (by simp) _).setCell (p:=⟨w.heap.size+1,1,none⟩) (by simp) _).setCell (p:=⟨w.heap.size+1,2,none⟩) (by simp) _).setCell (p:=⟨w.heap.size+1,3,none⟩) (by simp) _ |>.setCell (p:=⟨w.heap.size+1,4,none⟩) (by simp) _
end Go.Proofs.YtjckhhecnebmmaaGreatDoor.TU
end
section
namespace Go.Proofs.YtjckhhecnebmmaaGreatDoor.TU
open Go.RowKit Go.Proofs.YtjckhhecnebmmaaGreatDoorW.PrintWords Go.Proofs.YtjckhhecnebmmaaGreatDoorW.PrintLast Go.Proofs.YtjckhhecnebmmaaGreatDoorW.PrintMore Go.Proofs.YtjckhhecnebmmaaGreatDoor.QAll
attribute [local go_sem] max2_int min2_int max_two min_two max_three min_three max_four min_four
set_option linter.unusedVariables false
theorem Fresh.set {w0 w:World} {va:Value} {xs:List Int} (h:Fresh w0 w va xs) (p:Addr) (hp:p.block < w0.heap.size) (u:Value):Fresh w0 (w.setCell p u) va xs:=by
 obtain ⟨A,c,e,hl,hC,hA⟩:=h
 refine ⟨A,c,e,hl,C_block hC (fun _ _ h=>h) (fun a ha=>Below.heap_setCell w p u _ (by have:=(hA a ha).1;omega)),fun a ha=>⟨(hA a ha).1,by simp only [World.setCell,Array.size_modify];exact (hA a ha).2⟩⟩
theorem Fresh.lower {w0 w1 w:World} {va:Value} {xs:List Int} (h:Fresh w0 w va xs) (hl:w1.heap.size≤w0.heap.size):Fresh w1 w va xs:=by
 obtain ⟨A,c,e,h1,hC,hA⟩:=h
 exact ⟨A,c,e,h1,hC,fun a ha=>⟨Nat.le_trans hl (hA a ha).1,(hA a ha).2⟩⟩
theorem UF.fr {B:Nat} {w w':World} {g:Nat} {p:List Int} {t:List S115} (h:UF B w g p t) (hb:Below w.heap.size w w'):UF B w' g p t:=h.below hb
def upto (f:Int→Int) (xs:List Int) (k:Nat):List Int:=(xs.take k).map f++xs.drop k
theorem upto_length (f:Int→Int) (xs:List Int) (k:Nat) (hk:k≤xs.length):(upto f xs k).length=xs.length:=by simp [upto];omega
theorem upto_get (f:Int→Int) (xs:List Int) (k:Nat) (hk:k < xs.length):(upto f xs k).getD k 0=xs.getD k 0:=by
 unfold upto
 have hl:((xs.take k).map f).length=k:=by simp;omega
 rw [List.getD_eq_getElem?_getD,List.getElem?_append_right (by omega),hl,Nat.sub_self,List.getElem?_drop,List.getD_eq_getElem?_getD]
 simp
theorem upto_set (f:Int→Int) (xs:List Int) (k:Nat) (hk:k < xs.length):(upto f xs k).set k (f (xs.getD k 0))=upto f xs (k+1):=by
 unfold upto
 have hl:((xs.take k).map f).length=k:=by simp;omega
 rw [List.set_append_right _ _ (by omega),hl,Nat.sub_self,List.drop_eq_getElem_cons hk,List.take_succ_eq_append_getElem hk,List.map_append,List.append_assoc]
 simp [List.getD_eq_getElem?_getD,List.getElem?_eq_getElem hk]
 rw [List.drop_eq_getElem_cons hk]
 rfl
structure CanonAt (w wr:World) (n:Nd) (A:Option Addr) (c:Nat) (xs:List Int):Prop where
 bel:Below w.heap.size w wr
 box:wr.heap[w.heap.size]?=some (.cells (n.cells (.slice A n.args.length c)) 56 (0,0))
 res:wr.heap[w.heap.size+1]?=some (.cells zNode 56 (0,0))
 row:Kd.R (Kd.int .i64) 3 wr (w.heap.size+2) (fun _=>True) (.slice A n.args.length c) xs
theorem CanonAt.drew {w wr:World} {n:Nd} {A:Option Addr} {c:Nat} {xs:List Int} (h:CanonAt w wr n A c xs):CanonAt w wr.drew n A c xs:=⟨h.bel.drew,h.box,h.res,h.row⟩
theorem CanonAt.put {w wr:World} {n:Nd} {b c:Nat} {xs:List Int} (h:CanonAt w wr n (some ⟨b,0,none⟩) c xs) (i x:Int):CanonAt w (wr.setCell ⟨b,i.toNat,none⟩ (.int .i64 x)) n (some ⟨b,0,none⟩) c (xs.set i.toNat x):=by
 have hb:w.heap.size+2≤b:=by obtain ⟨inner,ho⟩:=Kd.R_own h.row;exact own_base ho b rfl
 refine ⟨h.bel.setCell (p:=⟨b,i.toNat,none⟩) (by simp only;omega) _,blk_far h.box (p:=⟨b,i.toNat,none⟩) (by simp only;omega) _,blk_far h.res (p:=⟨b,i.toNat,none⟩) (by simp only;omega) _,Kd.R_putn h.row i x⟩
set_option maxRecDepth 20000 in
set_option maxHeartbeats 6400000 in
theorem canon_find {w:World} {g:Nat} {p:List Int} {t:List S115} (hU:UF 0 w g p t) (hpl:p.length≤1000) (hW:Well p) (n:Nd) (va:Value) (hA:Held w va n.args) (hl:n.args.length≤1000) :
  Calls Tryz.prog 48 #[.agg (n.cells va),.func (.func 49) #[.pointer (some ⟨g,0,none⟩)] #[]] w fun e w'=>∃ va',e=.returned (.agg (n.cells va'))∧Fresh w w' va' (n.args.map (fnd p))∧Below w.heap.size w w':=by
 have hb2:Below w.heap.size w ((w.alloc (.cells (n.cells va) 56)).alloc (.cells zNode 56)):=(below_alloc (Below.refl w.heap.size w) _).alloc (by simp) _
 have hc:=clone_calls (hA.below hb2) hl
 have hbx:((w.alloc (.cells (n.cells va) 56)).alloc (.cells zNode 56)).heap[w.heap.size]?=some (.cells (n.cells va) 56 (0,0)):=blk_alloc (blk_new _ _) _
 have hrs:((w.alloc (.cells (n.cells va) 56)).alloc (.cells zNode 56)).heap[w.heap.size+1]?=some (.cells zNode 56 (0,0)):=by have:=blk_new (w.alloc (.cells (n.cells va) 56)) (.cells zNode 56);rwa [World.size_alloc]at this
 have hf:∀ wr x,Below w.heap.size w wr→Calls Tryz.prog 49 #[.pointer (some ⟨g,0,none⟩),.int .i64 x] wr fun e w'=>e=.returned (.int .i64 (fnd p x))∧wr=w':=fun wr x hb=>find_calls (hU.below hb) hpl hW x
 have HF:=Lib.hid hf
 have HB:=Lib.hid hb2
 have HX:=Lib.hid hbx
 have HR:=Lib.hid hrs
 have q83:∀ w:World,(binOp .neq 83 (.func (.func 49) #[.pointer (some ⟨g,0,none⟩)] #[]) .nilFunc).run Tryz.prog w=.ok (.bool true) w:=by intro w;kernel_rfl
 clear hA hb2 hbx hrs hU hW hf
 simp only [Nd.cells,zNode]at hc HB HX HR ⊢
 go_enter Tryz.func48,Tryz.ntmps48
 go_wp2_with (go_at_call 69;refine hc.mono ?_;rintro e w2 ⟨v2,rfl,ho2,hb2⟩;have HO2:=Lib.hid ho2;obtain ⟨A2,c2,hv2⟩:=own_slice ho2;subst hv2;have HB2:=Lib.hid hb2;have BX:=Lib.hid (blk_below HX.out hb2);have RS:=Lib.hid (blk_below HR.out hb2);have x4:w2.cell? ⟨w.heap.size,4,none⟩=some va:=(blk_cell BX.out 4).trans rfl;have y4:=blk_frozen BX.out 4;clear ho2 hb2)
 have HC0:=Lib.hid (show CanonAt w (w2.setCell ⟨w.heap.size,4,none⟩ (.slice A2 n.args.length c2)) n A2 c2 n.args from
  ⟨(HB.out.trans (HB2.out.mono (by simp;omega))).setCell (p:=⟨w.heap.size,4,none⟩) (Nat.le_refl _) _,blk_put BX.out 4 _ rfl,blk_far RS.out (p:=⟨w.heap.size,4,none⟩) (by simp) _,
   by have h:=Kd.R_of_own (h1:=fun _=>rfl) (own_set_below (own_weaken HO2.out (show w.heap.size+2≤_ by simp)) ⟨w.heap.size,4,none⟩ (by simp only;omega) (.slice A2 n.args.length c2)) (ok:=fun _=>True) (fun _ _=>trivial);exact h⟩)
 clear HO2 HB2 BX RS x4 y4 HB HX HR
 go_loopw [16] (fun i wr=>∃ k:Nat,k≤n.args.length∧i=.int .i64 k∧Hid (CanonAt w wr n A2 c2 (upto (fnd p) n.args k))) (fun i _=>n.args.length - (intOf i).toNat)
 case atStart=>exact ⟨0,Nat.zero_le _,rfl,by simpa [upto,Nd.cells]using HC0⟩
 case round =>
  obtain ⟨k,hk,rfl,HC⟩:=hrel
  clear HC0
  by_cases hlt:k < n.args.length
  ·have hul:=upto_length (fnd p) n.args k hk
   obtain ⟨b2,cc,he,hbb,hbl,_⟩:=Kd.R_form HC.out.row (by omega)
   injection he with he1 he2 he3
   subst he1
   subst he3
   have hg:=upto_get (fnd p) n.args k hlt
   have hst:=Lib.hid (upto_set (fnd p) n.args k hlt)
   obtain ⟨hc1,hf1⟩:=Kd.R_celln 0 HC.out.row (k:Int) (by omega) (by omega)
   have hc1:wr.cell? ⟨b2,k,none⟩=some (.int .i64 (n.args.getD k 0)):=by
    have e:rdOf (0:Int) (upto (fnd p) n.args k) (k:Int)=n.args.getD k 0:=by unfold rdOf;rw [Int.toNat_natCast];exact hg
    rw [e,Int.toNat_natCast]at hc1
    exact hc1
   rw [Int.toNat_natCast]at hf1
   have x4:wr.cell? ⟨w.heap.size,4,none⟩=some (.slice (some ⟨b2,0,none⟩) n.args.length c2):=(blk_cell HC.out.box 4).trans rfl
   have hcd:wr.drew.cell? ⟨b2,k,none⟩=some (.int .i64 (n.args.getD k 0)):=hc1
   have hfd:wr.drew.frozen? ⟨b2,k,none⟩=false:=hf1
   have x4d:wr.drew.cell? ⟨w.heap.size,4,none⟩=some (.slice (some ⟨b2,0,none⟩) n.args.length c2):=x4
   have i1:(0:Int)≤(k:Int):=by omega
   have i2:(k:Int) < (n.args.length:Int):=by omega
   have hp1:=HC.out.put (k:Int) (fnd p (n.args.getD k 0))
   rw [Int.toNat_natCast,upto_set (fnd p) n.args k hlt]at hp1
   have HP1:=Lib.hid hp1
   have x4s:(wr.setCell ⟨b2,k,none⟩ (.int .i64 (fnd p (n.args.getD k 0)))).drew.cell? ⟨w.heap.size,4,none⟩=some (.slice (some ⟨b2,0,none⟩) n.args.length c2):=(blk_cell hp1.box 4).trans rfl
   clear hg hc hul hbb hbl he2 q83 hp1
   generalize n.args.getD k 0=x at *
   go_wp2
   go_region_held3 (fun w'=>w'.cell? ⟨w.heap.size,4,none⟩=some (.slice (some ⟨b2,0,none⟩) n.args.length c2))
    (first | assumption | go_keep)
    ((go_at_call 49;refine (HF.out _ x ?_).mono ?_;(exact HC.out.drew.bel);rintro e w3 ⟨rfl,rfl⟩))
   all_goals go_wp2
   all_goals go_roundw
   case rel=>exact ⟨k+1,by omega,by go_num,HP1.out.drew⟩
   case measure=>simp [intOf];omega
  ·have hkl:k=n.args.length:=by omega
   subst hkl
   have hm:upto (fnd p) n.args n.args.length=n.args.map (fnd p):=by simp [upto]
   rw [hm]at HC
   have x0:wr.cell? ⟨w.heap.size,0,none⟩=some (.int .i64 n.op):=(blk_cell HC.out.box 0).trans rfl
   have x1:wr.cell? ⟨w.heap.size,1,none⟩=some (.int .i64 n.width):=(blk_cell HC.out.box 1).trans rfl
   have x2:wr.cell? ⟨w.heap.size,2,none⟩=some (.int .u64 n.val):=(blk_cell HC.out.box 2).trans rfl
   have x3:wr.cell? ⟨w.heap.size,3,none⟩=some (.string n.name):=(blk_cell HC.out.box 3).trans rfl
   have x4:wr.cell? ⟨w.heap.size,4,none⟩=some (.slice A2 n.args.length c2):=(blk_cell HC.out.box 4).trans rfl
   have r0:wr.cell? ⟨w.heap.size+1,0,none⟩=some (.int .i64 0):=(blk_cell HC.out.res 0).trans rfl
   have r1:wr.cell? ⟨w.heap.size+1,1,none⟩=some (.int .i64 0):=(blk_cell HC.out.res 1).trans rfl
   have r2:wr.cell? ⟨w.heap.size+1,2,none⟩=some (.int .u64 0):=(blk_cell HC.out.res 2).trans rfl
   have r3:wr.cell? ⟨w.heap.size+1,3,none⟩=some (.string ⟨#[]⟩):=(blk_cell HC.out.res 3).trans rfl
   have r4:wr.cell? ⟨w.heap.size+1,4,none⟩=some (.slice none 0 0):=(blk_cell HC.out.res 4).trans rfl
   have s0:=blk_frozen HC.out.res 0
   have s1:=blk_frozen HC.out.res 1
   have s2:=blk_frozen HC.out.res 2
   have s3:=blk_frozen HC.out.res 3
   have s4:=blk_frozen HC.out.res 4
   clear hc hm
   go_wp2
   have hs1:=node_stored HC.out.res (.int .i64 n.op) (.int .i64 n.width) (.int .u64 n.val) (.string n.name) (.slice A2 n.args.length c2)
   refine bodyPost_ret (results_cell_row rfl _ _ (w.heap.size+1) 56 #[.int .i64 n.op,.int .i64 n.width,.int .u64 n.val,.string n.name,.slice A2 n.args.length c2] (0,0) _ rfl hs1 Tryz.underlying56 rfl (by kernel_rfl)) rfl ?_
   refine ⟨_,rfl,?_,?_⟩
   ·have hrow:=Kd.R_own HC.out.row
    have ho:=Kd.own_of_R HC.out.row
    have ho2:=own_set_below (own_set_below (own_set_below (own_set_below (own_set_below ho ⟨w.heap.size+1,0,none⟩ (by simp only;omega) (.int .i64 n.op)) ⟨w.heap.size+1,1,none⟩ (by simp only;omega) (.int .i64 n.width)) ⟨w.heap.size+1,2,none⟩ (by simp only;omega) (.int .u64 n.val)) ⟨w.heap.size+1,3,none⟩ (by simp only;omega) (.string n.name)) ⟨w.heap.size+1,4,none⟩ (by simp only;omega) (.slice A2 n.args.length c2)
    exact Fresh.of_own (own_weaken ho2 (by omega))
   ·exact (((((HC.out.bel.setCell (p:=⟨w.heap.size+1,0,none⟩) (by simp) _).setCell (p:=⟨w.heap.size+1,1,none⟩) (by simp) _).setCell (p:=⟨w.heap.size+1,2,none⟩) (by simp) _).setCell (p:=⟨w.heap.size+1,3,none⟩) (by simp) _).setCell (p:=⟨w.heap.size+1,4,none⟩) (by simp) _)
set_option maxRecDepth 20000 in
set_option maxHeartbeats 1600000 in
theorem copy_calls {w:World} (n:Nd) (va:Value) (hA:Held w va n.args) (hl:n.args.length≤1000) :
  Calls Tryz.prog 31 #[.agg (n.cells va)] w fun e w'=>∃ va',e=.returned (.agg (n.cells va'))∧Fresh w w' va' n.args∧Below w.heap.size w w':=by
 have hb2:Below w.heap.size w ((w.alloc (.cells (n.cells va) 56)).alloc (.cells zNode 56)):=(below_alloc (Below.refl w.heap.size w) _).alloc (by simp) _
 have hc:=canon_nil n va (hA.below hb2) hl
 have hrs:((w.alloc (.cells (n.cells va) 56)).alloc (.cells zNode 56)).heap[w.heap.size+1]?=some (.cells zNode 56 (0,0)):=by have:=blk_new (w.alloc (.cells (n.cells va) 56)) (.cells zNode 56);rwa [World.size_alloc]at this
 have HB:=Lib.hid hb2
 have HR:=Lib.hid hrs
 clear hA hb2 hrs
 simp only [Nd.cells,zNode]at hc HB HR ⊢
 go_enter Tryz.func31,Tryz.ntmps31
 go_wp2_with (go_at_call 48;refine hc.mono ?_;rintro e w2 ⟨v2,rfl,hf2,hb2⟩;obtain ⟨A2,c2,hv2,_⟩:=id hf2;subst hv2;have HF2:=Lib.hid hf2;have HB2:=Lib.hid hb2;have RS:=Lib.hid (blk_below HR.out hb2);have r0:w2.cell? ⟨w.heap.size+1,0,none⟩=some (.int .i64 0):=(blk_cell RS.out 0).trans rfl;have r1:w2.cell? ⟨w.heap.size+1,1,none⟩=some (.int .i64 0):=(blk_cell RS.out 1).trans rfl;have r2:w2.cell? ⟨w.heap.size+1,2,none⟩=some (.int .u64 0):=(blk_cell RS.out 2).trans rfl;have r3:w2.cell? ⟨w.heap.size+1,3,none⟩=some (.string ⟨#[]⟩):=(blk_cell RS.out 3).trans rfl;have r4:w2.cell? ⟨w.heap.size+1,4,none⟩=some (.slice none 0 0):=(blk_cell RS.out 4).trans rfl;have s0:=blk_frozen RS.out 0;have s1:=blk_frozen RS.out 1;have s2:=blk_frozen RS.out 2;have s3:=blk_frozen RS.out 3;have s4:=blk_frozen RS.out 4;clear hf2 hb2)
 have hs1:=node_stored RS.out (.int .i64 n.op) (.int .i64 n.width) (.int .u64 n.val) (.string n.name) (.slice A2 n.args.length c2)
 refine bodyPost_ret (results_cell_row rfl _ _ (w.heap.size+1) 56 #[.int .i64 n.op,.int .i64 n.width,.int .u64 n.val,.string n.name,.slice A2 n.args.length c2] (0,0) _ rfl hs1 Tryz.underlying56 rfl (by kernel_rfl)) rfl ?_
 refine ⟨_,rfl,?_,?_⟩
 ·exact ((((HF2.out.set ⟨w.heap.size+1,0,none⟩ (by simp) _).set ⟨w.heap.size+1,1,none⟩ (by simp) _).set ⟨w.heap.size+1,2,none⟩ (by simp) _).set ⟨w.heap.size+1,3,none⟩ (by simp) _).set ⟨w.heap.size+1,4,none⟩ (by simp) _ |>.lower (by simp;omega)
 ·exact (((((HB.out.trans (HB2.out.mono (by simp;omega))).setCell (p:=⟨w.heap.size+1,0,none⟩) (by simp) _).setCell (p:=⟨w.heap.size+1,1,none⟩) (by simp) _).setCell (p:=⟨w.heap.size+1,2,none⟩) (by simp) _).setCell (p:=⟨w.heap.size+1,3,none⟩) (by simp) _).setCell (p:=⟨w.heap.size+1,4,none⟩) (by simp) _
end Go.Proofs.YtjckhhecnebmmaaGreatDoor.TU
end
section
namespace Go.Proofs.YtjckhhecnebmmaaGreatDoor.TU
open Go.RowKit Go.Proofs.YtjckhhecnebmmaaGreatDoorW.PrintWords Go.Proofs.YtjckhhecnebmmaaGreatDoorW.PrintLast Go.Proofs.YtjckhhecnebmmaaGreatDoorW.PrintMore Go.Proofs.YtjckhhecnebmmaaGreatDoor.QAll
attribute [local go_sem] max2_int min2_int max_two min_two max_three min_three max_four min_four
set_option linter.unusedVariables false
def putT (T:ByteArray→Option Int) (k:ByteArray) (id:Int):ByteArray→Option Int:=fun k'=>if k'=k then some id else T k'
def delT (T:ByteArray→Option Int) (k:ByteArray):ByteArray→Option Int:=fun k'=>if k'=k then none else T k'
theorem MapAt.update {w:World} {m n:Nat} {D:DataW Value} (h:MapAt w m n D) (hn:n < maxLen) (k:ByteArray) (hk:k.size≤maxLen) (a b:Int) (c:Int) (s:ByteArray) (A:Option Addr) (l cp:Nat) (id:Int) :
  ∃ w',(Instr.mapUpdate 90 (.map (some m)) (.string k) (entryV a b c s A l cp id)).run Tryz.prog w=.ok () w'∧MapAt w' m (n+1) (D.put (lits_ k) (.held (entryV a b c s A l cp id)))∧w.grownBy w' (some m):=by
 obtain ⟨w',hr,ho,hg⟩:=h.2.update (Go.Maps.string_keyed Tryz.underlying9) Tryz.underlying90 hn (Go.WideMaps.keyOf_string_mk Tryz.underlying9 hk) (entryElem_mk a b c s A l cp id)
 exact ⟨w',hr,⟨h.1.put _ _,ho⟩,hg⟩
theorem TabAt.mono {b g n n':Nat} {w:World} {o:Own} {T:ByteArray→Option Int} (h:TabAt b w o g T n) (hn:n≤n'):TabAt b w o g T n':=by
 obtain ⟨m,D,h1,h2,h3,h4⟩:=h
 exact ⟨m,D,h1,h2,⟨h3.1,h3.2.mono hn⟩,h4⟩
set_option maxRecDepth 20000 in
set_option maxHeartbeats 6400000 in
theorem put_calls {b B g N:Nat} {w:World} {o:Own} {T:ByteArray→Option Int} (H:TabAt b w o g T N) (hN:N≤1152921504606846976) (n:Nd) (va:Value) (hA:Held w va n.args) (hn:n.Ok) (xv:Int) (htab:Tab B w) (hB:B≤w.heap.size) :
  Calls Tryz.prog 46 #[.pointer (some ⟨g,0,none⟩),.agg (n.cells va),.int .i64 xv] w fun e w'=>∃ o',e=.returned (.bool (T (keyStr n)).isNone)∧TabAt b w' o' g (if (T (keyStr n)).isSome then T else putT T (keyStr n) xv) (N+1)∧Fr (TabM b) w o w' o':=by
 have hks:=keyStr_size n hn
 have hml:maxLen=9223372036854775807:=rfl
 have hk:∀ wr,Below w.heap.size w wr→Calls Tryz.prog 67 #[.agg (n.cells va)] wr fun e w'=>e=.returned (.string (keyStr n))∧Below wr.heap.size wr w':=fun wr hb=>by
  obtain ⟨A,c,hva,hlc,hC⟩:=hA
  exact key_calls n va A c hva (Kd.C_below hC hb) hn (htab.on (hb.mono hB)) (Nat.le_trans hB hb.size)
 have hcp:∀ wr,Below w.heap.size w wr→Calls Tryz.prog 31 #[.agg (n.cells va)] wr fun e w'=>∃ va',e=.returned (.agg (n.cells va'))∧Fresh wr w' va' n.args∧Below wr.heap.size wr w':=fun wr hb=>copy_calls n va (hA.below hb) hn.few
 obtain ⟨m,D,h1,h2,h3,h4⟩:=id H
 have hmd:=fun wr (hb:Below w.heap.size w wr)=>made_calls (H.fr ((Kp.refl (fun _=>False) w o).below hb) (fun _ _ h=>h))
 obtain ⟨ea,eb,ec,es,eA,el,ecp,hl0⟩:=h3.look (keyStr n) hks
 rw [h4]at hl0
 have hmlt:=h3.lt
 have hgm:some g≠some m:=by
  intro e
  obtain ⟨_,es,clock,hh,_⟩:=h3
  rw [← Option.some.inj e,h1.1]at hh
  cases hh
 have hwm:some w.heap.size≠some m:=by intro e;have:=Option.some.inj e;omega
 have hup:∀ wr,Below w.heap.size w wr→∀ A l cp,∃ w',(Instr.mapUpdate 90 (.map (some m)) (.string (keyStr n)) (.agg #[.int .i64 n.op,.int .i64 n.width,.int .u64 n.val,.string n.name,.slice A l cp,.int .i64 xv])).run Tryz.prog wr=.ok () w'∧wr.grownBy w' (some m)∧∃ D',MapAt w' m (N+1) D'∧∀ k,tabOf D' k=putT T (keyStr n) xv k:=fun wr hb A l cp=>by
  obtain ⟨w',hr,hm,hg⟩:=(h3.at (hb.block m hmlt)).update (by omega) (keyStr n) hks n.op n.width n.val n.name A l cp xv
  exact ⟨w',hr,hg,_,hm,fun k=>by rw [tabOf_put h3.1,h4];rfl⟩
 have hb1:=below_alloc (Below.refl w.heap.size w) (.cells (n.cells va) 56)
 have hI:InTab w (w.alloc (.cells (n.cells va) 56)) (n.cells va):=⟨hb1,blk_new _ _⟩
 have LIMB:=Lib.hid (fun wr (h:InTab w wr (n.cells va))=>show
   (wr.cell? ⟨g,0,none⟩=some (.map (some m))∧wr.cell? ⟨w.heap.size,0,none⟩=some (.int .i64 n.op)∧wr.cell? ⟨w.heap.size,1,none⟩=some (.int .i64 n.width)∧wr.cell? ⟨w.heap.size,2,none⟩=some (.int .u64 n.val)∧wr.cell? ⟨w.heap.size,3,none⟩=some (.string n.name)∧wr.cell? ⟨w.heap.size,4,none⟩=some va)from
  ⟨(blk_cell (blk_below h1.1 h.bel) 0).trans rfl,(blk_cell h.box 0).trans rfl,(blk_cell h.box 1).trans rfl,(blk_cell h.box 2).trans rfl,(blk_cell h.box 3).trans rfl,(blk_cell h.box 4).trans rfl⟩)
 have HI:=Lib.hid hI
 have HK:=Lib.hid hk
 have HM:=Lib.hid hmd
 have HCP:=Lib.hid hcp
 have HUP:=Lib.hid hup
 have HH:=Lib.hid H
 have HL:=Lib.hid (fun wr (hb:Below w.heap.size w wr)=>hl0 wr (hb.block m hmlt))
 have HG:=Lib.hid (And.intro h1 h2)
 clear hk hmd hI hb1 hl0 hup hcp h1 h2 h3 h4 hA hn H htab
 generalize keyStr n=ks at *
 simp only [Nd.cells]at HK HI HCP LIMB ⊢
 cases hT:T ks with
 | some y =>
  simp only [hT,Option.getD_some,Option.isSome_some,entryV]at HL
  simp only [Option.isNone_some,Option.isSome_some,if_true]
  go_enter Tryz.func46,Tryz.ntmps46
  go_wp2_with (first
   | (go_at_call 66;refine (HM.out _ HI.out.bel).mono ?_;rintro e w' ⟨rfl,rfl⟩)
   | (go_at_call 67;refine (HK.out _ HI.out.bel).mono ?_;rintro e w2 ⟨rfl,hb2⟩;have HI2:=Lib.hid (HI.out.below hb2);have hl:=HL.out w2 HI2.out.bel;obtain ⟨q0,q1,q2,q3,q4,q5⟩:=LIMB.out _ HI2.out;clear hb2))
  go_ret
  exact ⟨_,rfl,(HH.out.mono (Nat.le_succ N)).fr (((Kp.refl (fun _=>False) w o).renew 0).below (HI2.out.alloc _).bel) (fun _ _ h=>h),Fr.of_below (HI2.out.alloc _).bel 0 (.inl rfl)⟩
 | none =>
  simp only [hT,Option.getD_none,Option.isSome_none,entryV]at HL
  simp only [Option.isNone_none,Option.isSome_none]
  go_enter Tryz.func46,Tryz.ntmps46
  go_wp2_with (first
   | (go_at_call 66;refine (HM.out _ HI.out.bel).mono ?_;rintro e w' ⟨rfl,rfl⟩)
   | (go_at_call 67;refine (HK.out _ HI.out.bel).mono ?_;rintro e w2 ⟨rfl,hb2⟩;have HI2:=Lib.hid (HI.out.below hb2);have hl:=HL.out w2 HI2.out.bel;obtain ⟨q0,q1,q2,q3,q4,q5⟩:=LIMB.out _ HI2.out;clear hb2))
  have HI3:=Lib.hid ((HI2.out.alloc (.cells #[.int .i64 ea,.int .i64 eb,.int .u64 ec,.string es,.slice eA el ecp,.int .i64 0] 121)).drew)
  obtain ⟨p0,p1,p2,p3,p4,p5⟩:=LIMB.out _ HI3.out
  go_region_held3 (fun wr=>wr.cell? ⟨g,0,none⟩=some (.map (some m))∧wr.cell? ⟨w.heap.size,0,none⟩=some (.int .i64 n.op)∧wr.cell? ⟨w.heap.size,1,none⟩=some (.int .i64 n.width)∧wr.cell? ⟨w.heap.size,2,none⟩=some (.int .u64 n.val)∧wr.cell? ⟨w.heap.size,3,none⟩=some (.string n.name)∧wr.cell? ⟨w.heap.size,4,none⟩=some va)
   (first | (refine ⟨?_,?_,?_,?_,?_,?_⟩ <;> assumption) | fail)
   ((go_at_call 31;refine (HCP.out _ ?_).mono ?_;(exact HI3.out.bel);rintro e w3 ⟨v3,rfl,hf3,hb3⟩;obtain ⟨A3,c3,hv3,_⟩:=id hf3;subst hv3;have HI4:=Lib.hid (HI3.out.below hb3);obtain ⟨w4,hru,hgr,D4,hm4,ht4⟩:=HUP.out w3 HI4.out.bel A3 n.args.length c3;obtain ⟨l0,l1,l2,l3,l4,l5⟩:=LIMB.out _ HI4.out;have k0:=hgr.cell l0 hgm;have k1:=hgr.cell l1 hwm;have k2:=hgr.cell l2 hwm;have k3:=hgr.cell l3 hwm;have k4:=hgr.cell l4 hwm;have k5:=hgr.cell l5 hwm;clear hf3 hb3))
  go_wp2
  go_ret
  have hom:o.from_ w.heap.size 0 m=b+1:=(Own.from_lt hmlt).trans HG.out.2
  have hgl:=blk_lt HG.out.1.1
  refine ⟨rfl,o.from_ w.heap.size 0,⟨m,D4,⟨(hgr.block g (Nat.lt_of_lt_of_le hgl HI4.out.bel.size) hgm).trans (blk_below HG.out.1.1 HI4.out.bel),(Own.from_lt hgl).trans HG.out.1.2⟩,hom,hm4,ht4⟩,?_⟩
  exact ((Fr.start (TabM b) w o 0 (.inl rfl)).below HI4.out.bel).grown hgr (fun k e=>.inl (by rw [← Option.some.inj e,hom];exact .inr rfl))
end Go.Proofs.YtjckhhecnebmmaaGreatDoor.TU
end

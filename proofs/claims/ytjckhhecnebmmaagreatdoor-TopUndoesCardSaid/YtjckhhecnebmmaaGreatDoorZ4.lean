/- Steps towards the law TopUndoes; words printed by the kit, and printed texts, are cut to what is used, and spaces are left out. No condition. -/
import Derived.Test.YtjckhhecnebmmaaGreatDoorProg
import Derived.Below
import Derived.Deep.Draws
import Derived.Deep.AppendLies
import Derived.Maps.AppendAt
import Derived.OwnWalk
import Derived.Laws.BytesArg
import Derived.Laws.MakeOwn
import Derived.Laws.OwnMore
import Derived.Deep.OwnRows
import Derived.Tactics
import Derived.Lib.ConvBytes
import Derived.Laws.Slices
import Derived.WalkKit
import Derived.KernelRfl
import Derived.RowKit3
import Derived.Deep.LoopGhost
import Derived.Deep.QuietTactic
import Derived.BigQuiet
import Derived.WideLaws
import Derived.Deep.DeepCutAuto
import Derived.Deep.CutBlock
import Derived.Deep.RegionHeld3
import Derived.Laws.Rows
import Derived.Lib.AppendStr
import Derived.ArgAppend
import Derived.Laws.IdiomCopy
import Derived.OrdersHeld
import Derived.Laws.BitsLemmas
import Derived.RowKit
import Derived.Test.YtjckhhecnebmmaaGreatDoorZ1
import Derived.Test.YtjckhhecnebmmaaGreatDoorZ2
import Derived.Test.YtjckhhecnebmmaaGreatDoorZ3
import Derived.Laws.StructEq
import Derived.Lib.Hide
import Derived.Shelf.Strconv.AppendIntPublic10
import Derived.Shelf.Slices.Clone
import Derived.Deep.RegionWith
import Derived.Lib.ItoaLen
set_option linter.unusedVariables false
set_option linter.unusedSimpArgs false
section
namespace Go.Proofs.YtjckhhecnebmmaaGreatDoor.QAll
open Go.RowKit Go.Proofs.YtjckhhecnebmmaaGreatDoorW.PrintWords Go.Proofs.YtjckhhecnebmmaaGreatDoorW.PrintLast Go.Proofs.YtjckhhecnebmmaaGreatDoorW.PrintMore
attribute [local go_sem] max2_int min2_int max_two min_two max_three min_three max_four min_four   
set_option linter.unusedVariables false
set_option linter.unusedSimpArgs false
def errW:Option Int→Value
 | none=>.nilIface
 | some c=>.iface 0 (.int .i64 c)
theorem errW_none:errW none=.nilIface:=rfl
theorem errW_some (c:Int):errW (some c)=.iface 0 (.int .i64 c):=rfl
theorem info3:(Tryz.prog.info? 3).map (fun i=>(i.zero,i.size,i.bytes))=some (some (.int .i64 0),1,8):=by kernel_rfl
theorem info35:(Tryz.prog.info? 35).map (fun i=>(i.zero,i.size,i.bytes))=some (some (.agg #[(.int .i64 0),(.int .i64 0),(.int .u64 0),(.string ⟨#[]⟩),(.slice none 0 0)]),5,64):=by kernel_rfl
structure S35 where
 f0:Int
 f1:Int
 f2:Int
 f3:ByteArray
 f4:(List S35)
def z35:S35:=⟨(0:Int),(0:Int),(0:Int),(⟨#[]⟩:ByteArray),([]:List S35)⟩
def F35 (d:Kd S35):Kd S35:=Kd.iso (Kd.pair (Kd.int .i64) (Kd.pair (Kd.int .i64) (Kd.pair (Kd.int .u64) (Kd.pair Kd.string (Kd.slice 35 d))))) (fun x:S35=>(x.f0,x.f1,x.f2,x.f3,x.f4))
theorem mono35:Kd.Mono F35:=Kd.mono_iso _ (Kd.mono_pair (Kd.mono_const _) (Kd.mono_pair (Kd.mono_const _) (Kd.mono_pair (Kd.mono_const _) (Kd.mono_pair (Kd.mono_const _) (Kd.mono_slice 35 Kd.mono_id)))))
theorem sub35:Kd.Sub F35 [35]:=Kd.sub_iso _ (Kd.sub_pair (Kd.sub_const _ (by decide)) (Kd.sub_pair (Kd.sub_const _ (by decide)) (Kd.sub_pair (Kd.sub_const _ (by decide)) (Kd.sub_pair (Kd.sub_const _ (by decide)) (Kd.sub_slice 35 (by decide) Kd.sub_id)))))
theorem sz35:∀ n,(Kd.upto F35 5 [35] n).sz=5:=Kd.upto_sz (fun _=>rfl)
def k35:Kd S35:=Kd.fix F35 5 [35] sz35 (Kd.upto_E sub35)
theorem k35_open {w:World} {x:S35} {cs:List Value} (h:k35.K w x cs):∃ A4 c4,cs=[.int .i64 x.f0,.int .i64 x.f1,.int .u64 x.f2,.string x.f3,.slice A4 x.f4.length c4]∧x.f4.length≤c4∧k35.C w A4 x.f4.length x.f4:=by
 obtain ⟨n,h⟩:=h
 cases n with
 | zero=>exact h.elim
 | succ n =>
  obtain ⟨_,_,rfl,rfl,⟨_,_,rfl,rfl,⟨_,_,rfl,rfl,⟨_,_,rfl,rfl,⟨A4,c4,rfl,l4,g4⟩⟩⟩⟩⟩:=h
  exact ⟨A4,c4,rfl,l4,Kd.fix_C g4⟩
theorem k35_mk (w:World) (x:S35) {A4:Option Addr} {c4:Nat} (l4:x.f4.length≤c4) (g4:k35.C w A4 x.f4.length x.f4):k35.K w x [.int .i64 x.f0,.int .i64 x.f1,.int .u64 x.f2,.string x.f3,.slice A4 x.f4.length c4]:=by
 obtain ⟨n4,q4⟩:=Kd.fix_C_back mono35 g4
 have r4:=Kd.upto_C_le mono35 sz35 (show n4≤n4 by omega) q4
 exact ⟨n4+1,⟨[.int .i64 x.f0],[.int .i64 x.f1,.int .u64 x.f2,.string x.f3,.slice A4 x.f4.length c4],rfl,rfl,⟨[.int .i64 x.f1],[.int .u64 x.f2,.string x.f3,.slice A4 x.f4.length c4],rfl,rfl,⟨[.int .u64 x.f2],[.string x.f3,.slice A4 x.f4.length c4],rfl,rfl,⟨[.string x.f3],[.slice A4 x.f4.length c4],rfl,rfl,⟨A4,c4,rfl,l4,r4⟩⟩⟩⟩⟩⟩
theorem k35_mkM (w:World) (base:Nat) (ok:Nat→Prop) (x:S35) {v4:Value} (g4:k35.R 35 w base ok v4 x.f4):k35.M w base ok x [.int .i64 x.f0,.int .i64 x.f1,.int .u64 x.f2,.string x.f3,v4]:=by
 obtain ⟨n4,q4⟩:=Kd.fix_R_back mono35 g4
 have r4:=Kd.upto_R_le mono35 sz35 (show n4≤n4 by omega) q4
 exact ⟨n4+1,⟨[.int .i64 x.f0],[.int .i64 x.f1,.int .u64 x.f2,.string x.f3,v4],rfl,rfl,⟨[.int .i64 x.f1],[.int .u64 x.f2,.string x.f3,v4],rfl,rfl,⟨[.int .u64 x.f2],[.string x.f3,v4],rfl,rfl,⟨[.string x.f3],[v4],rfl,rfl,⟨v4,rfl,r4⟩⟩⟩⟩⟩⟩
def rd_T35 (xs:List S35) (i:Int):S35:=xs.getD i.toNat z35
theorem at_T35 {w:World} {A:Option Addr} {n:Nat} {xs:List S35} (h:Kd.C k35 w A n xs) (i:Int) (h0:0≤i) (h1:i < n):∃ ad A4 c4,A=some ad∧w.cell? (ad.add (i.toNat * 5))=some (.int .i64 (rd_T35 xs i).f0)∧w.cell? ⟨(ad.add (i.toNat * 5)).block,(ad.add (i.toNat * 5)).off+1,none⟩=some (.int .i64 (rd_T35 xs i).f1)∧w.cell? ⟨(ad.add (i.toNat * 5)).block,(ad.add (i.toNat * 5)).off+2,none⟩=some (.int .u64 (rd_T35 xs i).f2)∧w.cell? ⟨(ad.add (i.toNat * 5)).block,(ad.add (i.toNat * 5)).off+3,none⟩=some (.string (rd_T35 xs i).f3)∧w.cell? ⟨(ad.add (i.toNat * 5)).block,(ad.add (i.toNat * 5)).off+4,none⟩=some (.slice A4 (rd_T35 xs i).f4.length c4)∧(rd_T35 xs i).f4.length≤c4∧k35.C w A4 (rd_T35 xs i).f4.length (rd_T35 xs i).f4:=by
 obtain ⟨ad,c,e,_,hK,hc0⟩:=Kd.C_get h z35 i h0 h1
 have hc:∀ j u,c[j]?=some u→w.cell? (ad.add (i.toNat * 5+j))=some u:=hc0
 obtain ⟨A4,c4,rfl,l4,g4⟩:=k35_open hK
 exact ⟨ad,A4,c4,e,hc 0 _ rfl,by rw [← add_field _ _ 1 (by omega)];exact hc 1 _ rfl,by rw [← add_field _ _ 2 (by omega)];exact hc 2 _ rfl,by rw [← add_field _ _ 3 (by omega)];exact hc 3 _ rfl,by rw [← add_field _ _ 4 (by omega)];exact hc 4 _ rfl,l4,g4⟩
end Go.Proofs.YtjckhhecnebmmaaGreatDoor.QAll
end
section
namespace Go.Proofs.YtjckhhecnebmmaaGreatDoor.TU
open Go.RowKit Go.Proofs.YtjckhhecnebmmaaGreatDoorW.PrintWords Go.Proofs.YtjckhhecnebmmaaGreatDoorW.PrintLast Go.Proofs.YtjckhhecnebmmaaGreatDoorW.PrintMore Go.Proofs.YtjckhhecnebmmaaGreatDoor.QAll
set_option linter.unusedVariables false
abbrev Own:=Nat→Nat
structure Fr (M:Nat→Prop) (w:World) (o:Own) (w':World) (o':Own):Prop where
 os:w'.os=w.os
 tape:w'.tape=w.tape
 output:w'.output=w.output
 size:w.heap.size≤w'.heap.size
 own:∀ k,k < w.heap.size→o' k=o k
 block:∀ k,k < w.heap.size→¬ M (o k)→w'.heap[k]?=w.heap[k]?
 new:∀ k,w.heap.size≤k→o' k=0∨M (o' k)
structure Kp (M:Nat→Prop) (w:World) (o:Own) (w':World) (o':Own):Prop where
 size:w.heap.size≤w'.heap.size
 own:∀ k,k < w.heap.size→o' k=o k
 block:∀ k,k < w.heap.size→¬ M (o k)→w'.heap[k]?=w.heap[k]?
theorem Fr.kp {M:Nat→Prop} {w w':World} {o o':Own} (h:Fr M w o w' o'):Kp M w o w' o':=⟨h.size,h.own,h.block⟩
def Own.from_ (o:Own) (n t:Nat):Own:=fun k=>if k < n then o k else t
theorem Own.from_lt {o:Own} {n t k:Nat} (h:k < n):o.from_ n t k=o k:=by simp [Own.from_,h]
theorem Own.from_ge {o:Own} {n t k:Nat} (h:n≤k):o.from_ n t k=t:=by simp [Own.from_];omega
namespace Fr
variable {M M':Nat→Prop} {w w1 w2:World} {o o1 o2:Own}
theorem start (M:Nat→Prop) (w:World) (o:Own) (t:Nat) (ht:t=0∨M t):Fr M w o w (o.from_ w.heap.size t) :=
 ⟨rfl,rfl,rfl,Nat.le_refl _,fun k h=>Own.from_lt h,fun _ _ _=>rfl,fun k h=>by rw [Own.from_ge h];exact ht⟩
theorem trans (h:Fr M w o w1 o1) (k:Fr M w1 o1 w2 o2):Fr M w o w2 o2:=by
 refine ⟨k.os.trans h.os,k.tape.trans h.tape,k.output.trans h.output,Nat.le_trans h.size k.size,fun i hi=>(k.own i (Nat.lt_of_lt_of_le hi h.size)).trans (h.own i hi),fun i hi hm=>?_,fun i hi=>?_⟩
 ·exact (k.block i (Nat.lt_of_lt_of_le hi h.size) (by rw [h.own i hi];exact hm)).trans (h.block i hi hm)
 ·by_cases h1:i < w1.heap.size
  ·rw [k.own i h1];exact h.new i hi
  ·exact k.new i (by omega)
theorem mono (h:Fr M w o w1 o1) (hm:∀ t,M t→M' t):Fr M' w o w1 o1 :=
 ⟨h.os,h.tape,h.output,h.size,h.own,fun k hk hn=>h.block k hk (fun e=>hn (hm _ e)),fun k hk=>(h.new k hk).imp id (hm _)⟩
theorem renew (h:Fr M w o w1 o1) (t:Nat) (ht:t=0∨M t):Fr M w o w1 (o1.from_ w1.heap.size t):=h.trans (start M w1 o1 t ht)
theorem alloc (h:Fr M w o w1 o1) (X:Obj):Fr M w o (w1.alloc X) o1:=by
 refine ⟨h.os,h.tape,h.output,by simp;have:=h.size;omega,h.own,fun k hk hn=>(Below.heap_alloc w1 X k (Nat.lt_of_lt_of_le hk h.size)).trans (h.block k hk hn),h.new⟩
theorem drew (h:Fr M w o w1 o1):Fr M w o w1.drew o1:=⟨h.os,h.tape,h.output,h.size,h.own,h.block,h.new⟩
theorem drewN (h:Fr M w o w1 o1) (n:Nat):Fr M w o (w1.drewN n) o1:=⟨h.os,h.tape,h.output,h.size,h.own,h.block,h.new⟩
theorem setCell (h:Fr M w o w1 o1) (a:Addr) (u:Value) (ha:M (o1 a.block)∨w.heap.size≤a.block):Fr M w o (w1.setCell a u) o1:=by
 refine ⟨h.os,h.tape,h.output,by simp only [World.setCell,Array.size_modify];exact h.size,h.own,fun k hk hn=>?_,h.new⟩
 rw [Below.heap_setCell w1 a u k (by
  rintro rfl
  rcases ha with ha | ha
  ·rw [h.own _ hk]at ha;exact hn ha
  ·omega)]
 exact h.block k hk hn
theorem grown (h:Fr M w o w1 o1) {row:Option Nat} (hg:w1.grownBy w2 row) (hr:∀ k,row=some k→M (o1 k)∨w.heap.size≤k):Fr M w o w2 o1:=by
 refine ⟨hg.os.trans h.os,hg.tape.trans h.tape,hg.output.trans h.output,Nat.le_trans h.size hg.size,h.own,fun k hk hn=>?_,h.new⟩
 rw [hg.block k (Nat.lt_of_lt_of_le hk h.size) (by
  intro e
  rcases hr k e.symm with ha | ha
  ·rw [h.own _ hk]at ha;exact hn ha
  ·omega)]
 exact h.block k hk hn
theorem below (h:Fr M w o w1 o1) (hb:Below w1.heap.size w1 w2):Fr M w o w2 o1 :=
 ⟨hb.os.trans h.os,hb.tape.trans h.tape,hb.output.trans h.output,Nat.le_trans h.size hb.size,h.own,fun k hk hn=>(hb.block k (Nat.lt_of_lt_of_le hk h.size)).trans (h.block k hk hn),h.new⟩
theorem of_below (hb:Below w.heap.size w w1) (t:Nat) (ht:t=0∨M t):Fr M w o w1 (o.from_ w.heap.size t):=(start M w o t ht).below hb
theorem toBelow (h:Fr M w o w1 o1) {B:Nat} (hB:B≤w.heap.size) (h0:∀ k,k < B→¬ M (o k)):Below B w w1:=⟨h.os,h.tape,h.output,h.size,fun k hk=>h.block k (by omega) (h0 k hk)⟩
theorem toBelow0 (h:Fr (fun _=>False) w o w1 o1):Below w.heap.size w w1:=h.toBelow (Nat.le_refl _) (fun _ _ h=>h)
end Fr
namespace Kp
variable {M M':Nat→Prop} {w w1 w2:World} {o o1 o2:Own}
theorem refl (M:Nat→Prop) (w:World) (o:Own):Kp M w o w o:=⟨Nat.le_refl _,fun _ _=>rfl,fun _ _ _=>rfl⟩
theorem trans (h:Kp M w o w1 o1) (k:Kp M w1 o1 w2 o2):Kp M w o w2 o2 :=
 ⟨Nat.le_trans h.size k.size,fun i hi=>(k.own i (Nat.lt_of_lt_of_le hi h.size)).trans (h.own i hi),fun i hi hm=>(k.block i (Nat.lt_of_lt_of_le hi h.size) (by rw [h.own i hi];exact hm)).trans (h.block i hi hm)⟩
theorem mono (h:Kp M w o w1 o1) (hm:∀ t,M t→M' t):Kp M' w o w1 o1:=⟨h.size,h.own,fun k hk hn=>h.block k hk (fun e=>hn (hm _ e))⟩
theorem renew (h:Kp M w o w1 o1) (t:Nat):Kp M w o w1 (o1.from_ w1.heap.size t):=⟨h.size,fun k hk=>(Own.from_lt (Nat.lt_of_lt_of_le hk h.size)).trans (h.own k hk),h.block⟩
theorem alloc (h:Kp M w o w1 o1) (X:Obj):Kp M w o (w1.alloc X) o1:=⟨by simp;have:=h.size;omega,h.own,fun k hk hn=>(Below.heap_alloc w1 X k (Nat.lt_of_lt_of_le hk h.size)).trans (h.block k hk hn)⟩
theorem drew (h:Kp M w o w1 o1):Kp M w o w1.drew o1:=⟨h.size,h.own,h.block⟩
theorem drewN (h:Kp M w o w1 o1) (n:Nat):Kp M w o (w1.drewN n) o1:=⟨h.size,h.own,h.block⟩
theorem setCell (h:Kp M w o w1 o1) (a:Addr) (u:Value) (ha:M (o1 a.block)∨w.heap.size≤a.block):Kp M w o (w1.setCell a u) o1:=by
 refine ⟨by simp only [World.setCell,Array.size_modify];exact h.size,h.own,fun k hk hn=>?_⟩
 rw [Below.heap_setCell w1 a u k (by
  rintro rfl
  rcases ha with ha | ha
  ·rw [h.own _ hk]at ha;exact hn ha
  ·omega)]
 exact h.block k hk hn
theorem grown (h:Kp M w o w1 o1) {row:Option Nat} (hg:w1.grownBy w2 row) (hr:∀ k,row=some k→M (o1 k)∨w.heap.size≤k):Kp M w o w2 o1:=by
 refine ⟨Nat.le_trans h.size hg.size,h.own,fun k hk hn=>?_⟩
 rw [hg.block k (Nat.lt_of_lt_of_le hk h.size) (by
  intro e
  rcases hr k e.symm with ha | ha
  ·rw [h.own _ hk]at ha;exact hn ha
  ·omega)]
 exact h.block k hk hn
theorem below (h:Kp M w o w1 o1) (hb:Below w1.heap.size w1 w2):Kp M w o w2 o1 :=
 ⟨Nat.le_trans h.size hb.size,h.own,fun k hk hn=>(hb.block k (Nat.lt_of_lt_of_le hk h.size)).trans (h.block k hk hn)⟩
end Kp
section
variable {M:Nat→Prop} {w w':World} {o o':Own}
def Blk (w:World) (o:Own) (t g:Nat) (cs:Array Value) (e:Nat):Prop:=w.heap[g]?=some (.cells cs e (0,0))∧o g=t
theorem Blk.fr {t g e:Nat} {cs:Array Value} (h:Blk w o t g cs e) (f:Kp M w o w' o') (ht:¬ M t):Blk w' o' t g cs e:=by
 have hl:=blk_lt h.1
 exact ⟨(f.block g hl (by rw [h.2];exact ht)).trans h.1,(f.own g hl).trans h.2⟩
theorem Blk.set {t g e:Nat} {cs:Array Value} (h:Blk w o t g cs e) (i:Nat) (u:Value):Blk (w.setCell ⟨g,i,none⟩ u) o t g (cs.setIfInBounds i u) e:=⟨blk_set h.1 i u,h.2⟩
def Row {α:Type} (d:Kd α) (e:Nat) (w:World) (o:Own) (t:Nat) (v:Value) (xs:List α):Prop:=d.R e w 0 (fun k=>o k=t) v xs
theorem Row.fr {α:Type} {d:Kd α} {e t:Nat} {v:Value} {xs:List α} (h:Row d e w o t v xs) (f:Kp M w o w' o') (ht:¬ M t):Row d e w' o' t v xs:=by
 have hb:=Kd.R_bound h
 refine Kd.R_mono (Kd.R_move hb (fun k hk=>f.block k hk.2.2.1 (by rw [hk.1];exact ht))) (fun k hk=>?_)
 exact (f.own k hk.2.2.1).trans hk.1
theorem Row.nil {α:Type} (d:Kd α) (e:Nat) (w:World) (o:Own) (t:Nat):Row d e w o t (.slice none 0 0) []:=Kd.R_nil d e w 0 _
theorem Row.renew {α:Type} {d:Kd α} {e t:Nat} {v:Value} {xs:List α} (h:Row d e w o t v xs) (t2:Nat):Row d e w (o.from_ w.heap.size t2) t v xs :=
 Kd.R_mono (Kd.R_bound h) (fun k hk=>by rw [Own.from_lt hk.2.2.1];exact hk.1)
theorem Row.slice {α:Type} {d:Kd α} {e t:Nat} {v:Value} {xs:List α} (h:Row d e w o t v xs):∃ A c,v=.slice A xs.length c:=Kd.R_slice h
theorem Row.own {α:Type} {d:Kd α} {e t:Nat} {v:Value} {xs:List α} (h:Row d e w o t v xs):∀ k,v.ownBlock=some k→o k=t:=h.1
theorem Row.uf {α:Type} {d:Kd α} {e t:Nat} {v:Value} {xs:List α} (h:Row d e w o t v xs):d.R e w 0 (fun _=>True) v xs:=Kd.R_mono h (fun _ _=>trivial)
theorem Row.take {α:Type} {d:Kd α} {e t m n c:Nat} {A:Option Addr} {xs:List α} (h:Row d e w o t (.slice A n c) xs) (hm:m≤xs.length):Row d e w o t (.slice A m c) (xs.take m):=Kd.R_take h hm
def Imm (w:World) (o:Own) (v:Value) (xs:List Int):Prop :=
 ∃ A c,v=.slice A xs.length c∧xs.length≤c∧(Kd.int .i64).C w A xs.length xs∧∀ a,A=some a→a.block < w.heap.size∧o a.block=0
theorem add_block (a:Addr) (n:Nat):(a.add n).block=a.block:=by unfold Addr.add;split <;> rfl
theorem C_block {α:Type} {d:Kd α} {A:Option Addr} {n:Nat} {xs:List α} (h:d.C w A n xs) (hK:∀ x c,d.K w x c→d.K w' x c) (hb:∀ a,A=some a→w'.heap[a.block]?=w.heap[a.block]?):d.C w' A n xs:=by
 refine ⟨h.1,h.2.1,fun hn=>?_⟩
 obtain ⟨ad,e,hc⟩:=h.2.2 hn
 refine ⟨ad,e,fun j p hj=>?_⟩
 obtain ⟨c,hs,hr,hcell⟩:=hc j p hj
 exact ⟨c,hs,hK _ _ hr,fun i u hu=>(World.cell?_of_block (a:=ad.add (j * d.sz+i)) (by rw [add_block];exact hb ad e)).trans (hcell i u hu)⟩
theorem Imm.fr {v:Value} {xs:List Int} (h:Imm w o v xs) (f:Kp M w o w' o') (h0:¬ M 0):Imm w' o' v xs:=by
 obtain ⟨A,c,e,hl,hC,hA⟩:=h
 refine ⟨A,c,e,hl,C_block hC (fun _ _ h=>h) (fun a ha=>f.block _ (hA a ha).1 (by rw [(hA a ha).2];exact h0)),fun a ha=>⟨Nat.lt_of_lt_of_le (hA a ha).1 f.size,(f.own _ (hA a ha).1).trans (hA a ha).2⟩⟩
theorem Imm.nil (w:World) (o:Own):Imm w o (.slice none 0 0) []:=⟨none,0,rfl,Nat.le_refl _,⟨rfl,by simp,fun h=>by simp at h⟩,fun a h=>by cases h⟩
end
section
variable {P:Program} {ops:Array Oper} {rest:List Oper} {op:Oper} {a:Act} {Q:Exit→Act→World→Prop} {α:Type}
theorem row_append (d:Kd α) {M:Nat→Prop} {w0 W:World} {o0 o:Own} (f:Fr M w0 o0 W o) (t:Nat) (hM:M t) (hgd:op.guard=none) (s x:Operand) (ts e:TypeId) (z:Value) (bytes:Nat)
  (ho:op.op=.call { callee:=.builtin .append,args:=#[s,x],argTypes:=#[ts,ts] })
  (ht:P.underlying ts=some (.slice e)) (hinfo:(P.info? e).map (fun i=>(i.zero,i.size,i.bytes))=some (some z,d.sz,bytes)) (hz:z.cells.size=d.sz) (hs0:0 < d.sz) (hb0:0 < bytes)
  (v:Value) (xs:List α) (p:α) (cs:List Value) (hs:a.eval s=v) (hx:a.eval x=.slice (some ⟨W.heap.size,0,none⟩) 1 1) (hp:d.M W 0 (fun _=>False) p cs)
  (HO:Row d e W o t v xs) (hl:(xs.length+1) * bytes≤140737488355328)
  (h:∀ A1 c1 w1,Row d e w1 (o.from_ W.heap.size t) t (.slice A1 (xs.length+1) c1) (xs++[p])→Fr M w0 o0 w1 (o.from_ W.heap.size t)→Kp (·=t) W o w1 (o.from_ W.heap.size t)→wpList P ops Q rest (a.put op.dst (.slice A1 (xs.length+1) c1)) w1) :
  wpList P ops Q (op :: rest) a (W.alloc (.cells cs.toArray e)):=by
 refine Kd.R_append d (w0:=W) 0 hgd s x ts e z bytes ho ht hinfo hz hs0 hb0 v xs p cs (fun k=>o.from_ W.heap.size t k=t) (fun _=>False) hs hx hp (fun _ h=>h.elim) (fun k hk=>Own.from_ge hk) (HO.renew t) (Below.refl _ _) (Nat.zero_le _) hl ?_
 intro v1 w1 h1 _ hg _
 obtain ⟨A1,c1,rfl⟩:=Kd.R_slice h1
 rw [List.length_append,List.length_singleton]at h1 ⊢
 have hown:=HO.own
 refine h A1 c1 w1 h1 ((f.renew t (.inr hM)).grown hg (fun k hk=>?_)) (((Kp.refl _ W o).renew t).grown hg (fun k hk=>?_))
 ·have hk2:=(Kd.R_bound HO).1 k hk
  left;rw [Own.from_lt hk2.2.2.1,hk2.1];exact hM
 ·have hk2:=(Kd.R_bound HO).1 k hk
  left;rw [Own.from_lt hk2.2.2.1,hk2.1]
end
end Go.Proofs.YtjckhhecnebmmaaGreatDoor.TU
end
section
namespace Go.Proofs
open Go.Shelf
def Tryz.laysM288_ren:Go.Shelf.Ren:=⟨fun | 288=>99 | 283=>104 | 284=>105 | 285=>106 | 286=>107 | 129=>109 | 317=>108 | 318=>110 | 319=>111 | 320=>112 | 337=>113 | 338=>114 | n=>n,fun | 37=>134 | 53=>32 | 3=>3 | 4=>4 | 9=>9 | 171=>148 | 0=>0 | 173=>151 | 212=>153 | 51=>154 | 5=>5 | 20=>20 | 213=>155 | 46=>156 | 232=>159 | 233=>160 | n=>n,fun | 17=>0 | 18=>1 | 19=>2 | n=>n⟩
theorem Tryz.laysM288:Go.Proofs.LaysM.n288 Tryz.prog Tryz.laysM288_ren:={
 mixed:=by kernel_rfl
 f129:=Tryz.func109.trans (congrArg some (by kernel_rfl))
 f283:=Tryz.func104.trans (congrArg some (by kernel_rfl))
 f284:=Tryz.func105.trans (congrArg some (by kernel_rfl))
 f285:=Tryz.func106.trans (congrArg some (by kernel_rfl))
 f286:=Tryz.func107.trans (congrArg some (by kernel_rfl))
 f288:=Tryz.func99.trans (congrArg some (by kernel_rfl))
 f317:=Tryz.func108.trans (congrArg some (by kernel_rfl))
 f318:=Tryz.func110.trans (congrArg some (by kernel_rfl))
 f319:=Tryz.func111.trans (congrArg some (by kernel_rfl))
 f320:=Tryz.func112.trans (congrArg some (by kernel_rfl))
 f337:=Tryz.func113.trans (congrArg some (by kernel_rfl))
 f338:=Tryz.func114.trans (congrArg some (by kernel_rfl))
 t0:=Tryz.underlying0
 a0:=Tryz.isAgg0
 z0:=Tryz.sizeOf0
 v0:=Tryz.zeroValue0
 t3:=Tryz.underlying3
 a3:=Tryz.isAgg3
 z3:=Tryz.sizeOf3
 v3:=Tryz.zeroValue3
 t4:=Tryz.underlying4
 a4:=Tryz.isAgg4
 z4:=Tryz.sizeOf4
 v4:=Tryz.zeroValue4
 t5:=Tryz.underlying5
 a5:=Tryz.isAgg5
 z5:=Tryz.sizeOf5
 v5:=Tryz.zeroValue5
 t9:=Tryz.underlying9
 a9:=Tryz.isAgg9
 z9:=Tryz.sizeOf9
 v9:=Tryz.zeroValue9
 t20:=Tryz.underlying20
 a20:=Tryz.isAgg20
 z20:=Tryz.sizeOf20
 v20:=Tryz.zeroValue20
 t37:=Tryz.underlying134
 a37:=Tryz.isAgg134
 z37:=Tryz.sizeOf134
 v37:=Tryz.zeroValue134
 t46:=Tryz.underlying156
 a46:=Tryz.isAgg156
 z46:=Tryz.sizeOf156
 v46:=Tryz.zeroValue156
 t51:=Tryz.underlying154
 a51:=Tryz.isAgg154
 z51:=Tryz.sizeOf154
 v51:=Tryz.zeroValue154
 t53:=Tryz.underlying32
 a53:=Tryz.isAgg32
 z53:=Tryz.sizeOf32
 v53:=Tryz.zeroValue32
 t171:=Tryz.underlying148
 a171:=Tryz.isAgg148
 z171:=Tryz.sizeOf148
 v171:=Tryz.zeroValue148
 t173:=Tryz.underlying151
 a173:=Tryz.isAgg151
 z173:=Tryz.sizeOf151
 v173:=Tryz.zeroValue151
 t212:=Tryz.underlying153
 a212:=Tryz.isAgg153
 z212:=Tryz.sizeOf153
 v212:=Tryz.zeroValue153
 t213:=Tryz.underlying155
 a213:=Tryz.isAgg155
 z213:=Tryz.sizeOf155
 t232:=Tryz.underlying159
 a232:=Tryz.isAgg159
 z232:=Tryz.sizeOf159
 v232:=Tryz.zeroValue159
 t233:=Tryz.underlying160
 a233:=Tryz.isAgg160
 z233:=Tryz.sizeOf160
 v233:=Tryz.zeroValue160
 g17:=by kernel_rfl
 g18:=by kernel_rfl
 g19:=by kernel_rfl
 i0:=by kernel_rfl
 i3:=by kernel_rfl
 i4:=by kernel_rfl
 i5:=by kernel_rfl
 i9:=by kernel_rfl
 i20:=by kernel_rfl
 i37:=by kernel_rfl
 i46:=by kernel_rfl
 i51:=by kernel_rfl
 i53:=by kernel_rfl
 i171:=by kernel_rfl
 i173:=by kernel_rfl
 i212:=by kernel_rfl
 i232:=by kernel_rfl
 i233:=by kernel_rfl
 m17:=by kernel_rfl
 m18:=by kernel_rfl
 m19:=by kernel_rfl }
open Go.RowKit Go.Sort Go.Lib in
theorem Tryz.internal_strconv_AppendUint_10 (B n u:Nat) (hu64:u < 18446744073709551616) (sv:Value) (xs:List Value) (w:World) (hown:w.ownsRow B 5 1 sv n xs) (hBw:B≤w.heap.size) (hlim:n+20≤140737488355328) (htab:Lib.TabIs Tryz.prog w "internal/strconv.uint64pow10" .u64 Lib.pow10Tab) :
  Calls Tryz.prog 99 #[sv,.int .u64 u,.int .i64 10] w fun e w'=>∃ v',e=.returned v'∧w'.ownsRow B 5 1 v' (n+(Lib.decDigits u).length) (xs++Lib.byteCells (Lib.decDigits u))∧Below B w w'∧Lib.OthersKept 5 none w w':=Any.internal_strconv_AppendUint_10 Tryz.laysM288 B n u hu64 sv xs w hown hBw hlim htab
def Tryz.laysM176_ren:Go.Shelf.Ren:=⟨fun | 176=>84 | 249=>98 | 288=>99 | 283=>104 | 284=>105 | 285=>106 | 286=>107 | 129=>109 | 317=>108 | 318=>110 | 319=>111 | 320=>112 | 337=>113 | 338=>114 | n=>n,fun | 37=>134 | 2=>2 | 3=>3 | 53=>32 | 4=>4 | 9=>9 | 171=>148 | 0=>0 | 173=>151 | 212=>153 | 51=>154 | 5=>5 | 20=>20 | 213=>155 | 46=>156 | 232=>159 | 233=>160 | n=>n,fun | 17=>0 | 18=>1 | 19=>2 | n=>n⟩
theorem Tryz.laysM176:Go.Proofs.LaysM.n176 Tryz.prog Tryz.laysM176_ren:={
 mixed:=by kernel_rfl
 f129:=Tryz.func109.trans (congrArg some (by kernel_rfl))
 f176:=Tryz.func84.trans (congrArg some (by kernel_rfl))
 f249:=Tryz.func98.trans (congrArg some (by kernel_rfl))
 f283:=Tryz.func104.trans (congrArg some (by kernel_rfl))
 f284:=Tryz.func105.trans (congrArg some (by kernel_rfl))
 f285:=Tryz.func106.trans (congrArg some (by kernel_rfl))
 f286:=Tryz.func107.trans (congrArg some (by kernel_rfl))
 f288:=Tryz.func99.trans (congrArg some (by kernel_rfl))
 f317:=Tryz.func108.trans (congrArg some (by kernel_rfl))
 f318:=Tryz.func110.trans (congrArg some (by kernel_rfl))
 f319:=Tryz.func111.trans (congrArg some (by kernel_rfl))
 f320:=Tryz.func112.trans (congrArg some (by kernel_rfl))
 f337:=Tryz.func113.trans (congrArg some (by kernel_rfl))
 f338:=Tryz.func114.trans (congrArg some (by kernel_rfl))
 t0:=Tryz.underlying0
 a0:=Tryz.isAgg0
 z0:=Tryz.sizeOf0
 v0:=Tryz.zeroValue0
 t2:=Tryz.underlying2
 a2:=Tryz.isAgg2
 z2:=Tryz.sizeOf2
 v2:=Tryz.zeroValue2
 t3:=Tryz.underlying3
 a3:=Tryz.isAgg3
 z3:=Tryz.sizeOf3
 v3:=Tryz.zeroValue3
 t4:=Tryz.underlying4
 a4:=Tryz.isAgg4
 z4:=Tryz.sizeOf4
 v4:=Tryz.zeroValue4
 t5:=Tryz.underlying5
 a5:=Tryz.isAgg5
 z5:=Tryz.sizeOf5
 v5:=Tryz.zeroValue5
 t9:=Tryz.underlying9
 a9:=Tryz.isAgg9
 z9:=Tryz.sizeOf9
 v9:=Tryz.zeroValue9
 t20:=Tryz.underlying20
 a20:=Tryz.isAgg20
 z20:=Tryz.sizeOf20
 v20:=Tryz.zeroValue20
 t37:=Tryz.underlying134
 a37:=Tryz.isAgg134
 z37:=Tryz.sizeOf134
 v37:=Tryz.zeroValue134
 t46:=Tryz.underlying156
 a46:=Tryz.isAgg156
 z46:=Tryz.sizeOf156
 v46:=Tryz.zeroValue156
 t51:=Tryz.underlying154
 a51:=Tryz.isAgg154
 z51:=Tryz.sizeOf154
 v51:=Tryz.zeroValue154
 t53:=Tryz.underlying32
 a53:=Tryz.isAgg32
 z53:=Tryz.sizeOf32
 v53:=Tryz.zeroValue32
 t171:=Tryz.underlying148
 a171:=Tryz.isAgg148
 z171:=Tryz.sizeOf148
 v171:=Tryz.zeroValue148
 t173:=Tryz.underlying151
 a173:=Tryz.isAgg151
 z173:=Tryz.sizeOf151
 v173:=Tryz.zeroValue151
 t212:=Tryz.underlying153
 a212:=Tryz.isAgg153
 z212:=Tryz.sizeOf153
 v212:=Tryz.zeroValue153
 t213:=Tryz.underlying155
 a213:=Tryz.isAgg155
 z213:=Tryz.sizeOf155
 t232:=Tryz.underlying159
 a232:=Tryz.isAgg159
 z232:=Tryz.sizeOf159
 v232:=Tryz.zeroValue159
 t233:=Tryz.underlying160
 a233:=Tryz.isAgg160
 z233:=Tryz.sizeOf160
 v233:=Tryz.zeroValue160
 g17:=by kernel_rfl
 g18:=by kernel_rfl
 g19:=by kernel_rfl
 i0:=by kernel_rfl
 i2:=by kernel_rfl
 i3:=by kernel_rfl
 i4:=by kernel_rfl
 i5:=by kernel_rfl
 i9:=by kernel_rfl
 i20:=by kernel_rfl
 i37:=by kernel_rfl
 i46:=by kernel_rfl
 i51:=by kernel_rfl
 i53:=by kernel_rfl
 i171:=by kernel_rfl
 i173:=by kernel_rfl
 i212:=by kernel_rfl
 i232:=by kernel_rfl
 i233:=by kernel_rfl
 m17:=by kernel_rfl
 m18:=by kernel_rfl
 m19:=by kernel_rfl }
open Go.RowKit Go.Sort Go.Lib in
theorem Tryz.strconv_AppendInt_10 (B n:Nat) (i:Int) (h0:-9223372036854775808≤i) (h1:i≤9223372036854775807) (sv:Value) (xs:List Value) (w:World) (hown:w.ownsRow B 5 1 sv n xs) (hBw:B≤w.heap.size) (hlim:n+21≤140737488355328) (htab:Lib.TabBelow Tryz.prog B w "internal/strconv.uint64pow10" .u64 Lib.pow10Tab) :
  Calls Tryz.prog 84 #[sv,.int .i64 i,.int .i64 10] w fun e w'=>∃ v',e=.returned v'∧w'.ownsRow B 5 1 v' (n+(Lib.itoa i).length) (xs++Lib.byteCells (Lib.itoa i))∧Below B w w'∧Lib.OthersKept 5 none w w':=Any.strconv_AppendInt_10 Tryz.laysM176 B n i h0 h1 sv xs w hown hBw hlim htab
def Tryz.laysNm215_ren:Go.Shelf.Ren:=⟨fun | 15=>69 | n=>n,fun | 22=>26 | 3=>3 | 4=>4 | n=>n,fun | n=>n⟩
theorem Tryz.laysNm215:Go.Proofs.Lays2.n15 Tryz.prog Tryz.laysNm215_ren:={
 mixed:=by kernel_rfl
 f15:=Tryz.func69.trans (congrArg some (by kernel_rfl))
 t3:=Tryz.underlying3
 a3:=Tryz.isAgg3
 z3:=Tryz.sizeOf3
 v3:=Tryz.zeroValue3
 t4:=Tryz.underlying4
 a4:=Tryz.isAgg4
 z4:=Tryz.sizeOf4
 v4:=Tryz.zeroValue4
 t22:=Tryz.underlying26
 a22:=Tryz.isAgg26
 z22:=Tryz.sizeOf26
 v22:=Tryz.zeroValue26
 i3:=by kernel_rfl }
open Go.RowKit Go.Lib in
theorem Tryz.slices_Clone_int (b off n c:Nat) (zs:List Int) (w:World) (hz:n≤zs.length) (hbig:n * 8≤140737488355328) (hc:∀ j,j < zs.length→w.cell? ⟨b,off+j,none⟩=some (.int .i64 (zs.getD j 0))) :
  Calls Tryz.prog 69 #[.slice (some ⟨b,off,none⟩) n c] w fun e w'=>∃ v',e=.returned v'∧w'.ownsRow w.heap.size 3 1 v' n ((zs.take n).map (Value.int .i64))∧v'≠.slice none 0 0∧Below w.heap.size w w':=Any.slices_Clone_int Tryz.laysNm215 b off n c zs w hz hbig hc
open Go.RowKit Go.Lib in
theorem Tryz.slices_Clone_int_nil (n c:Nat) (w:World) :
  Calls Tryz.prog 69 #[.slice none n c] w fun e w'=>e=.returned (.slice none 0 0)∧w'=w:=Any.slices_Clone_int_nil Tryz.laysNm215 n c w
open Go.RowKit Go.Lib in
theorem Tryz.slices_Clone_int_zero (a:Addr) (c:Nat) (w:World) :
  Calls Tryz.prog 69 #[.slice (some a) 0 c] w fun e w'=>∃ v',e=.returned v'∧w'.ownsRow w.heap.size 3 1 v' 0 []∧v'≠.slice none 0 0∧Below w.heap.size w w':=Any.slices_Clone_int_zero Tryz.laysNm215 a c w
end Go.Proofs
end
section
namespace Go.Proofs.YtjckhhecnebmmaaGreatDoor.TU
open Go.RowKit Go.Proofs.YtjckhhecnebmmaaGreatDoorW.PrintWords Go.Proofs.YtjckhhecnebmmaaGreatDoorW.PrintLast Go.Proofs.YtjckhhecnebmmaaGreatDoorW.PrintMore Go.Proofs.YtjckhhecnebmmaaGreatDoor.QAll
attribute [local go_sem] max2_int min2_int max_two min_two max_three min_three max_four min_four
set_option linter.unusedVariables false
structure Nd where
 op:Int
 width:Int
 val:Nat
 name:ByteArray
 args:List Int
def Nd.cells (n:Nd) (va:Value):Array Value:=#[.int .i64 n.op,.int .i64 n.width,.int .u64 n.val,.string n.name,va]
structure Nd.Ok (n:Nd):Prop where
 op:-9223372036854775808≤n.op∧n.op≤9223372036854775807
 width:-9223372036854775808≤n.width∧n.width≤9223372036854775807
 val:n.val < 18446744073709551616
 name:n.name.size≤1000000
 args:∀ a∈n.args,-9223372036854775808≤a∧a≤9223372036854775807
 few:n.args.length≤1000
def argBytes:List Int→List UInt8
 | []=>[]
 | a :: l=>44 :: Lib.itoa a++argBytes l
def keyBytes (n:Nd):List UInt8:=Lib.itoa n.op++[44]++Lib.itoa n.width++[44]++Lib.decDigits n.val++argBytes n.args++[58]++n.name.data.toList
def keyStr (n:Nd):ByteArray:=strOfNums ((keyBytes n).map fun b=>(b.toNat:Int))
def Tab (B:Nat) (w:World):Prop:=Lib.TabBelow Tryz.prog B w "internal/strconv.uint64pow10" .u64 Lib.pow10Tab
theorem Tab.raise {B B':Nat} {w:World} (h:Tab B w) (hb:B≤B'):Tab B' w:=fun w' h'=>h w' (h'.mono hb)
set_option maxHeartbeats 1600000 in
theorem appendUint_calls (B n:Nat) (u:Nat) (hu:u < 18446744073709551616) (sv:Value) (xs:List Value) (w:World) (hown:w.ownsRow B 5 1 sv n xs) (hBw:B≤w.heap.size) (hlim:n+20≤140737488355328) (htab:Tab B w) :
  Calls Tryz.prog 85 #[sv,.int .u64 u,.int .i64 10] w fun e w'=>∃ v',e=.returned v'∧w'.ownsRow B 5 1 v' (n+(Lib.decDigits u).length) (xs++Lib.byteCells (Lib.decDigits u))∧Below B w w':=by
 have hc:=Tryz.internal_strconv_AppendUint_10 B n u hu sv xs w hown hBw hlim htab.here
 go_enter Tryz.func85,Tryz.ntmps85
 go_wp2_with (go_at_call 99;refine hc.mono ?_;rintro e w2 ⟨v2,rfl,h2,h3,_⟩)
 go_ret
 exact ⟨v2,rfl,h2,h3⟩
theorem argBytes_length:∀ (l:List Int),(∀ a∈l,-9223372036854775808≤a∧a≤9223372036854775807)→(argBytes l).length≤22 * l.length
 | [],_=>Nat.le_refl _
 | a :: l,h=>by
  have h1:=Lib.itoa_length_le a (h a List.mem_cons_self).1 (h a List.mem_cons_self).2
  have ih:=argBytes_length l (fun a ha=>h a (List.mem_cons_of_mem _ ha))
  simp only [argBytes,List.length_append,List.length_cons]
  omega
theorem argBytes_snoc (l:List Int) (a:Int):argBytes (l++[a])=argBytes l++[44]++Lib.itoa a:=by
 induction l with
 | nil=>simp [argBytes]
 | cons b l ih=>simp [argBytes,ih]
theorem C_int_at {w:World} {A:Option Addr} {n:Nat} {xs:List Int} (h:(Kd.int .i64).C w A n xs) (k:Nat) (hk:k < n):∃ ad,A=some ad∧w.cell? (ad.add k)=some (.int .i64 (xs.getD k 0)):=by
 obtain ⟨ad,c,e,_,hr,hc⟩:=ReadsRow.get_ h 0 (k:Int) (by omega) (by omega)
 rw [Int.toNat_natCast]at hr
 have hr:c=[.int .i64 (xs.getD k 0)]:=hr
 subst hr
 have:=hc 0 _ rfl
 refine ⟨ad,e,?_⟩
 have e1:(k:Int).toNat * (Kd.int .i64).sz+0=k:=by show (k:Int).toNat * 1+0=k;omega
 rwa [e1]at this
section
variable {P:Program} {ops:Array Oper} {rest:List Oper} {o:Oper} {a:Act} {Q:Exit→Act→World→Prop} {W:World}
theorem gate_append_str {xs:Array Operand} {ts:Array TypeId} (_ho:o.op=.call { callee:=.builtin .append,args:=xs,argTypes:=ts }) (h:wpList P ops Q (o :: rest) a W):wpList P ops Q (o :: rest) a W:=h
end
structure InKey (w wr:World) (cs:Array Value) (v:Value) (xs:List UInt8):Prop where
 bel:Below w.heap.size w wr
 box:wr.heap[w.heap.size]?=some (.cells cs 56 (0,0))
 row:wr.ownsRow (w.heap.size+1) 5 1 v xs.length (Lib.byteCells xs)
theorem InKey.drew {w wr:World} {cs:Array Value} {v:Value} {xs:List UInt8} (h:InKey w wr cs v xs):InKey w wr.drew cs v xs:=⟨h.bel.drew,h.box,h.row⟩
theorem InKey.lt {w wr:World} {cs:Array Value} {v:Value} {xs:List UInt8} (h:InKey w wr cs v xs):w.heap.size+1≤wr.heap.size:=blk_lt h.box
theorem InKey.after {w wr w2:World} {cs:Array Value} {v v2:Value} {xs ys:List UInt8} {n:Nat} {zs:List Value} (h:InKey w wr cs v xs) (hn:n=xs.length+ys.length) (hz:zs=Lib.byteCells xs++Lib.byteCells ys) (ho:w2.ownsRow (w.heap.size+1) 5 1 v2 n zs) (hb:Below (w.heap.size+1) wr w2):InKey w w2 cs v2 (xs++ys):=by
 subst hn hz
 refine ⟨h.bel.trans (hb.mono (by omega)),(hb.block _ (by omega)).trans h.box,?_⟩
 rw [List.length_append]
 have e:Lib.byteCells (xs++ys)=Lib.byteCells xs++Lib.byteCells ys:=by simp [Lib.byteCells]
 rw [e]
 exact ho
theorem InKey.conv {w wr:World} {cs:Array Value} {v:Value} {xs:List UInt8} (h:InKey w wr cs v xs):(convert 134 9 v).run Tryz.prog wr=.ok (.string (strOfNums (xs.map fun b=>(b.toNat:Int)))) wr:=by
 refine own_string (n:=xs.length) (w:=wr) (base:=w.heap.size+1) (e':=5) Tryz.underlying134 Tryz.underlying5 Tryz.underlying9 ?_
 have h2:=h.row
 have e:Lib.byteCells xs=nums .u8 (xs.map fun b=>(b.toNat:Int)):=by simp [Lib.byteCells,nums]
 rw [e]at h2
 exact h2
theorem inf5:(Tryz.prog.info? 5).map (fun i=>(i.zero,i.size,i.bytes))=some (some (.int .u8 0),1,1):=by kernel_rfl
set_option maxRecDepth 20000 in
set_option maxHeartbeats 3200000 in
theorem key_calls {B:Nat} {w:World} (n:Nd) (va:Value) (A:Option Addr) (c:Nat) (hva:va=.slice A n.args.length c) (hC:(Kd.int .i64).C w A n.args.length n.args) (hn:n.Ok) (htab:Tab B w) (hB:B≤w.heap.size) :
  Calls Tryz.prog 67 #[.agg (n.cells va)] w fun e w'=>e=.returned (.string (keyStr n))∧Below w.heap.size w w':=by
 obtain ⟨op,width,val,name,args⟩:=n
 obtain ⟨h1,h2,h3,h4,h5,h6⟩:=hn
 simp only at h1 h2 h3 h4 h5 h6 hva hC
 subst hva
 have hb1:=below_alloc (Below.refl w.heap.size w) (.cells #[.int .i64 op,.int .i64 width,.int .u64 val,.string name,.slice A args.length c] 56)
 have HB1:=Lib.hid hb1
 have HT:=Lib.hid (fun wr (h:Below w.heap.size w wr)=>Tab.raise (B:=B) (w:=wr) (htab.on (h.mono hB)) (show B≤w.heap.size+1 by omega))
 have HC:=Lib.hid hC
 have H5:=Lib.hid h5
 have hl1:=Lib.itoa_length_le op h1.1 h1.2
 have hl2:=Lib.itoa_length_le width h2.1 h2.2
 have hl3:=Lib.nDigits_le20 val h3
 have h32:IntKind.i64.wrap (32+(name.size:Int))=32+(name.size:Int):=IntWalk.i64_in _ (by omega)
 obtain ⟨i0,hi,hzz⟩:=Option.map_eq_some_iff.1 inf5
 simp only [Prod.mk.injEq]at hzz
 obtain ⟨hz0,hz1,hz2⟩:=hzz
 have HI:=Lib.hid hi
 have HZ0:=Lib.hid hz0
 have HZ1:=Lib.hid hz1
 have HZ2:=Lib.hid hz2
 clear hb1 htab hC h5 hi hz0 hz1 hz2
 simp only [Nd.cells]
 go_enter Tryz.func67,Tryz.ntmps67
 go_wp2_with (first
  | (at_make;refine wpList_make_own _ rfl _ _ 134 rfl (w.heap.size+1) 5 i0 (.int .u8 0) 1 Tryz.underlying134 HI.out HZ0.out HZ1.out _ _ (32+(name.size:Int)) (32+name.size) rfl rfl (by simp) (by rw [HZ2.out];omega) (by have:maxLen=9223372036854775807:=rfl;omega) (by simp) ?_;intro w2 ho2 hg2;rw [World.size_alloc]at ho2 ⊢;have HK2:=Lib.hid (InKey.mk (w:=w) (xs:=[]) (HB1.out.grown hg2 (by simp) (fun k h=>by cases h)) ((hg2.block _ (by simp) (by simp)).trans (blk_new _ _)) ho2);clear ho2 hg2;have d0:w2.cell? ⟨w.heap.size,0,none⟩=some (.int .i64 op):=(blk_cell HK2.out.box 0).trans rfl)
  | (go_at_call 84;refine (Tryz.strconv_AppendInt_10 (w.heap.size+1) 0 op h1.1 h1.2 _ [] w2 HK2.out.row HK2.out.lt (by omega) (HT.out _ HK2.out.bel)).mono ?_;rintro e w3 ⟨v3,rfl,ho3,hb3,_⟩;have HK3:=Lib.hid (HK2.out.after (ys:=Lib.itoa op) (by simp) (by simp [Lib.byteCells]) ho3 hb3);clear ho3 hb3))
 have d1:w3.cell? ⟨w.heap.size,1,none⟩=some (.int .i64 width):=(blk_cell HK3.out.box 1).trans rfl
 go_region_held3 (fun w'=>w'.cell? ⟨w.heap.size,1,none⟩=some (.int .i64 width))
  (first | assumption | go_keep)
  (first
   | (refine step_append_cells (w0:=w3.drew) (W:=w3.drew) (w.heap.size+1) (by rfl) (.tmp 15) (.tmp 16) 134 5 (.int .u8 0) 1 1 (by rfl) Tryz.underlying134 inf5 rfl (by decide) (by decide) v3 _ _ [.int .u8 44] (by rfl) (by rfl) rfl (by simp [Value.oneCell']) HK3.out.drew.row (Below.refl _ _) HK3.out.drew.lt (by simp;omega) ?_;intro v4 w4 ho4 hb4 _ _;have HK4:=Lib.hid (HK3.out.drew.after (ys:=[44]) (by simp) (by simp [Lib.byteCells]) ho4 hb4);have e1:w4.cell? ⟨w.heap.size,1,none⟩=some (.int .i64 width):=(blk_cell HK4.out.box 1).trans rfl;clear ho4 hb4)
   | (go_at_call 84;refine (Tryz.strconv_AppendInt_10 (w.heap.size+1) _ width h2.1 h2.2 _ _ w4 HK4.out.row HK4.out.lt (by simp;omega) (HT.out _ HK4.out.bel)).mono ?_;rintro e w5 ⟨v5,rfl,ho5,hb5,_⟩;have HK5:=Lib.hid (HK4.out.after (ys:=Lib.itoa width) (by simp) rfl ho5 hb5);have e2:w5.cell? ⟨w.heap.size,1,none⟩=some (.int .i64 width):=(blk_cell HK5.out.box 1).trans rfl;clear ho5 hb5))
 go_wp2
 have d2:w5.cell? ⟨w.heap.size,2,none⟩=some (.int .u64 val):=(blk_cell HK5.out.box 2).trans rfl
 go_region_held3 (fun w'=>w'.cell? ⟨w.heap.size,2,none⟩=some (.int .u64 val))
  (first | assumption | go_keep)
  (first
   | (refine step_append_cells (w0:=w5.drew) (W:=w5.drew) (w.heap.size+1) (by rfl) (.tmp 21) (.tmp 22) 134 5 (.int .u8 0) 1 1 (by rfl) Tryz.underlying134 inf5 rfl (by decide) (by decide) v5 _ _ [.int .u8 44] (by rfl) (by rfl) rfl (by simp [Value.oneCell']) HK5.out.drew.row (Below.refl _ _) HK5.out.drew.lt (by simp;omega) ?_;intro v6 w6 ho6 hb6 _ _;have HK6:=Lib.hid (HK5.out.drew.after (ys:=[44]) (by simp) (by simp [Lib.byteCells]) ho6 hb6);have e3:w6.cell? ⟨w.heap.size,2,none⟩=some (.int .u64 val):=(blk_cell HK6.out.box 2).trans rfl;clear ho6 hb6)
   | (go_at_call 85;refine (appendUint_calls (w.heap.size+1) _ val h3 _ _ w6 HK6.out.row HK6.out.lt (by simp;omega) (HT.out _ HK6.out.bel)).mono ?_;rintro e w7 ⟨v7,rfl,ho7,hb7⟩;have HK7:=Lib.hid (HK6.out.after (ys:=Lib.decDigits val) (by simp) rfl ho7 hb7);have e4:w7.cell? ⟨w.heap.size,2,none⟩=some (.int .u64 val):=(blk_cell HK7.out.box 2).trans rfl;clear ho7 hb7))
 have d4:w7.cell? ⟨w.heap.size,4,none⟩=some (.slice A args.length c):=(blk_cell HK7.out.box 4).trans rfl
 clear HK2 HK3 HK4 HK5 HK6 d0 d1 d2 e1 e2 e3 e4
 have hP:(((([]++Lib.itoa op)++[44])++Lib.itoa width)++[44]++Lib.decDigits val)=Lib.itoa op++[44]++Lib.itoa width++[44]++Lib.decDigits val:=by simp
 rw [hP]at HK7
 have hPl:(Lib.itoa op++[44]++Lib.itoa width++[44]++Lib.decDigits val).length≤100:=by simp only [List.length_append,List.length_cons,List.length_nil,Lib.decDigits_length];omega
 have hkey:keyBytes ⟨op,width,val,name,args⟩=Lib.itoa op++[44]++Lib.itoa width++[44]++Lib.decDigits val++argBytes args++[58]++name.data.toList:=rfl
 have HKEY:=Lib.hid hkey
 clear hP hkey
 generalize Lib.itoa op++[44]++Lib.itoa width++[44]++Lib.decDigits val=P at *
 have hcs:(#[.int .i64 op,.int .i64 width,.int .u64 val,.string name,.slice A args.length c]:Array Value)[3]?=some (.string name):=rfl
 have HCS:=Lib.hid hcs
 clear hcs
 generalize (#[.int .i64 op,.int .i64 width,.int .u64 val,.string name,.slice A args.length c]:Array Value)=cs at *
 go_wp2
 go_loopw [3,30] (fun v i wr=>∃ (k:Nat),k≤args.length∧i=.int .i64 k∧Hid (InKey w wr cs v (P++argBytes (args.take k)))) (fun _ i _=>args.length - (intOf i).toNat)
 case atStart=>exact ⟨0,Nat.zero_le _,rfl,by simpa [argBytes]using HK7⟩
 case round =>
  obtain ⟨k,hk,rfl,HK⟩:=hrel
  have hlen:=argBytes_length (args.take k) (fun a ha=>H5.out a (List.mem_of_mem_take ha))
  rw [List.length_take]at hlen
  by_cases hlt:k < args.length
  ·obtain ⟨ad,rfl,hc0⟩:=C_int_at HC.out k hlt
   have hc1:wr.cell? (ad.add k)=some (.int .i64 (args.getD k 0)):=(HK.out.bel.cell (World.block_lt_of_cell? w _ hc0)).trans hc0
   have hmem:args.getD k 0∈args:=by rw [List.getD_eq_getElem?_getD,List.getElem?_eq_getElem hlt];exact List.getElem_mem hlt
   have ha:=H5.out _ hmem
   have hl4:=Lib.itoa_length_le _ ha.1 ha.2
   have hst:P++argBytes (args.take (k+1))=P++argBytes (args.take k)++[44]++Lib.itoa (args.getD k 0):=by
    rw [List.take_succ_eq_append_getElem hlt,argBytes_snoc]
    simp [List.getD_eq_getElem?_getD,List.getElem?_eq_getElem hlt]
   have HST:=Lib.hid hst
   clear hc0 hst hmem
   generalize args.getD k 0=x at *
   have hql:(P++argBytes (args.take k)).length≤100+22 * 1000:=by rw [List.length_append];omega
   generalize P++argBytes (args.take k)=q at *
   go_wp2_with (first
    | ((with_reducible refine gate_builtin (b:=.append) (xs:=#[.tmp 34,.tmp 35]) rfl ?_);at_builtin;refine print_append_cells (w0:=wr) (W:=wr) (w.heap.size+1) rfl (.tmp 34) (.tmp 35) 134 5 (.int .u8 0) 1 1 rfl Tryz.underlying134 inf5 rfl (by decide) (by decide) _ _ _ [.int .u8 44] rfl rfl rfl (by simp [Value.oneCell']) HK.out.row (Below.refl _ _) HK.out.lt (by omega) ?_;intro v8 w8 ho8 hb8 _ _;have HK8:=Lib.hid (HK.out.after (ys:=[44]) (by simp) (by simp [Lib.byteCells]) ho8 hb8);clear ho8 hb8)
    | (go_at_call 84;refine (Tryz.strconv_AppendInt_10 (w.heap.size+1) _ x ha.1 ha.2 _ _ w8 HK8.out.row HK8.out.lt (by simp;omega) (HT.out _ HK8.out.bel)).mono ?_;rintro e w9 ⟨v9,rfl,ho9,hb9,_⟩;have HK9:=Lib.hid (HK8.out.after (ys:=Lib.itoa x) (by simp) rfl ho9 hb9);clear ho9 hb9))
   go_roundw
   case rel=>exact ⟨k+1,by omega,by go_num,by unfold Hid;rw [HST.out];exact HK9.out⟩
   case measure=>simp [intOf];omega
  ·have hkl:k=args.length:=by omega
   subst hkl
   rw [List.take_length]at HK hlen
   have hql:(P++argBytes args).length≤100+22 * 1000:=by rw [List.length_append];omega
   generalize P++argBytes args=q at *
   have d3:wr.cell? ⟨w.heap.size,3,none⟩=some (.string name):=(blk_cell HK.out.box 3).trans HCS.out
   go_wp2_with (first
    | ((with_reducible refine gate_builtin (b:=.append) (xs:=#[.tmp 40,.tmp 41]) rfl ?_);at_builtin;refine print_append_cells (w0:=wr) (W:=wr) (w.heap.size+1) rfl (.tmp 40) (.tmp 41) 134 5 (.int .u8 0) 1 1 rfl Tryz.underlying134 inf5 rfl (by decide) (by decide) _ _ _ [.int .u8 58] rfl rfl rfl (by simp [Value.oneCell']) HK.out.row (Below.refl _ _) HK.out.lt (by omega) ?_;intro v8 w8 ho8 hb8 _ _;have HK8:=Lib.hid (HK.out.after (ys:=[58]) (by simp) (by simp [Lib.byteCells]) ho8 hb8);have f3:w8.cell? ⟨w.heap.size,3,none⟩=some (.string name):=(blk_cell HK8.out.box 3).trans HCS.out;clear ho8 hb8)
    | ((with_reducible refine gate_append_str (xs:=#[.tmp 43,.tmp 45]) (ts:=#[134,9]) rfl ?_);refine Lib.wpList_append_own_string w8 rfl (.tmp 43) (.tmp 45) 134 9 rfl (w.heap.size+1) 5 i0 Tryz.underlying134 Tryz.underlying9 HI.out HZ0.out HZ1.out HZ2.out _ _ _ rfl HK8.out.row name rfl (by have:maxLen=9223372036854775807:=rfl;simp;omega) (by simp;omega) HK8.out.lt ?_;intro v9 w9 ho9 hg9 _;have hb9:=(Below.refl (w.heap.size+1) w8).grown hg9 HK8.out.lt (own_base HK8.out.row);have HK9:=Lib.hid (HK8.out.after (ys:=name.data.toList) (by simp) (by rw [Lib.strCells_eq]) ho9 hb9);have hcv:=HK9.out.conv;clear ho9 hg9 hb9))
   go_ret
   exact ⟨by unfold keyStr;rw [HKEY.out];simp,HK9.out.bel⟩
end Go.Proofs.YtjckhhecnebmmaaGreatDoor.TU
end

/- Steps towards the law TopUndoes; words printed by the kit, and printed texts, are cut to what is used, and spaces are left out. No condition. -/
import Derived.Test.YtjckhhecnebmmaaGreatDoorZ4
import Derived.Maps.OwnSet
import Derived.Maps.Views
import Derived.WalkSpells
import Derived.WideKeyEntry
import Derived.RegionTactic
import Derived.Deep.LoopGhost
import Derived.ChangeAlike
import Derived.Deep.QuietTactic
import Derived.BigQuiet
set_option linter.unusedVariables false
set_option linter.unusedSimpArgs false
section
namespace Go.Proofs.YtjckhhecnebmmaaGreatDoor.TU
open Go.RowKit Go.Proofs.YtjckhhecnebmmaaGreatDoorW.PrintWords Go.Proofs.YtjckhhecnebmmaaGreatDoorW.PrintLast Go.Proofs.YtjckhhecnebmmaaGreatDoorW.PrintMore Go.Proofs.YtjckhhecnebmmaaGreatDoor.QAll
attribute [local go_sem] max2_int min2_int max_two min_two max_three min_three max_four min_four
set_option linter.unusedVariables false
def entryV (a b:Int) (c:Int) (s:ByteArray) (A:Option Addr) (n cp:Nat) (id:Int):Value:=.agg #[.int .i64 a,.int .i64 b,.int .u64 c,.string s,.slice A n cp,.int .i64 id]
def EntryShape (v:Value):Prop:=∃ a b c s A n cp id,v=entryV a b c s A n cp id
open Classical in
noncomputable def entryElem (v:Value):Option (DataW Value × List MemPlace):=if EntryShape v then some (.held v,[])else none
theorem entryElem_mk (a b:Int) (c:Int) (s:ByteArray) (A:Option Addr) (n cp:Nat) (id:Int):entryElem (entryV a b c s A n cp id)=some (.held (entryV a b c s A n cp id),[]):=if_pos ⟨_,_,_,_,_,_,_,_,rfl⟩
theorem entryElem_inv {v:Value} {z:DataW Value × List MemPlace} (h:entryElem v=some z):EntryShape v∧z=(.held v,[]):=by
 unfold entryElem at h
 by_cases e:EntryShape v
 ·rw [if_pos e]at h;exact ⟨e,(Option.some.inj h).symm⟩
 ·rw [if_neg e]at h;cases h
def idOf:Value→Int
 | .agg #[_,_,_,_,_,.int _ x]=>x
 | _=>0
theorem idOf_mk (a b:Int) (c:Int) (s:ByteArray) (A:Option Addr) (n cp:Nat) (id:Int):idOf (entryV a b c s A n cp id)=id:=rfl
def lits_ (k:ByteArray):Lit:=.string k.data.toList
theorem lits_inj {a b:ByteArray} (h:lits_ a=lits_ b):a=b:=by
 unfold lits_ at h
 injection h with h
 cases a;cases b
 simp_all
theorem keyLit (k:ByteArray):Go.WideAt.IsKeyLit (lits_ k):=by simp [lits_,Go.WideAt.IsKeyLit]
def zEntry:Value:=entryV 0 0 0 ⟨#[]⟩ none 0 0 0
theorem zero121 (w:World):(zeroValue 121).run Tryz.prog w=.ok zEntry w:=by exact Tryz.zeroValue121 w
def tabOf (D:DataW Value) (k:ByteArray):Option Int:=if Go.Maps.has D (lits_ k)then (match D.atKey (lits_ k) (.held zEntry)with | .held v=>some (idOf v) | _=>some 0)else none
def MapAt (w:World) (m n:Nat) (D:DataW Value):Prop:=Go.Maps.IsMap D∧w.ownsMap Tryz.prog 9 entryElem m n D
theorem MapAt.at {w w':World} {m n:Nat} {D:DataW Value} (h:MapAt w m n D) (hb:w'.heap[m]?=w.heap[m]?):MapAt w' m n D:=by
 obtain ⟨h1,es,clock,h2,h3,h4,h5⟩:=h
 exact ⟨h1,es,clock,hb.trans h2,h3,h4,h5⟩
theorem MapAt.made (w:World):MapAt (w.alloc (.map #[] 0)) w.heap.size 0 (.map []):=⟨Go.Maps.isMap_empty,World.ownsMap_made _ _ _ _⟩
theorem tabOf_empty (k:ByteArray):tabOf (.map []) k=none:=rfl
set_option maxRecDepth 20000 in
theorem MapAt.look {w:World} {m n:Nat} {D:DataW Value} (h:MapAt w m n D) (k:ByteArray) (hk:k.size≤maxLen) :
  ∃ a b c s A l cp,∀ w',w'.heap[m]?=w.heap[m]?→(Instr.lookup 90 (.map (some m)) (.string k) true).run Tryz.prog w'=.ok (.tuple #[entryV a b c s A l cp ((tabOf D k).getD 0),.bool (tabOf D k).isSome]) w':=by
 obtain ⟨v,ps,hr,hv⟩:=h.2.look_ok (Go.Maps.string_keyed Tryz.underlying9) Tryz.underlying90 (zero121 w) (zd:=.held zEntry) (zp:=[]) (entryElem_mk _ _ _ _ _ _ _ _) (Go.WideMaps.keyOf_string_mk Tryz.underlying9 hk)
 obtain ⟨⟨a,b,c,s,A,n',cp,id,rfl⟩,hz⟩:=entryElem_inv hv
 have hd:D.atKey (lits_ k) (.held zEntry)=.held (entryV a b c s A n' cp id):=(Prod.mk.inj hz).1
 have hid:(tabOf D k).getD 0=id∧(tabOf D k).isSome=Go.Maps.has D (lits_ k):=by
  unfold tabOf
  cases hh:Go.Maps.has D (lits_ k)
  ·have:=Go.Maps.atKey_of_not_has hh (.held zEntry)
   rw [hd]at this
   injection this with this
   have e:id=0:=by have:=congrArg idOf this;simpa [zEntry,idOf_mk]using this
   simp [e]
  ·rw [if_pos rfl,hd];simp [idOf_mk]
 refine ⟨a,b,c,s,A,n',cp,fun w' hb=>?_⟩
 obtain ⟨v',ps',hr',hv'⟩:=(h.at hb).2.look_ok (Go.Maps.string_keyed Tryz.underlying9) Tryz.underlying90 (zero121 w') (zd:=.held zEntry) (zp:=[]) (entryElem_mk _ _ _ _ _ _ _ _) (Go.WideMaps.keyOf_string_mk Tryz.underlying9 hk)
 obtain ⟨_,hz'⟩:=entryElem_inv hv'
 have hd':D.atKey (lits_ k) (.held zEntry)=.held v':=(Prod.mk.inj hz').1
 rw [hd]at hd'
 injection hd' with hd'
 rw [hid.1,hid.2,hd']
 exact hr'
theorem tabOf_put {D:DataW Value} (h:Go.Maps.IsMap D) (k:ByteArray) (a b:Int) (c:Int) (s:ByteArray) (A:Option Addr) (n cp:Nat) (id:Int) (k':ByteArray) :
  tabOf (D.put (lits_ k) (.held (entryV a b c s A n cp id))) k'=if k'=k then some id else tabOf D k':=by
 unfold tabOf
 by_cases e:k'=k
 ·subst e
  rw [if_pos (Go.Maps.has_put_same h (keyLit k') _),Go.Maps.atKey_put_same h (keyLit k'),if_pos rfl]
  simp [idOf_mk]
 ·have hne:lits_ k'≠lits_ k:=fun h=>e (lits_inj h)
  rw [Go.Maps.has_put_other hne,Go.Maps.atKey_put_other hne,if_neg e]
theorem tabOf_del {D:DataW Value} (k k':ByteArray):tabOf (D.del (lits_ k)) k'=if k'=k then none else tabOf D k':=by
 unfold tabOf
 by_cases e:k'=k
 ·subst e
  rw [if_neg (by rw [Go.Maps.has_del_same];simp),if_pos rfl]
 ·have hne:lits_ k'≠lits_ k:=fun h=>e (lits_inj h)
  rw [Go.Maps.has_del_other hne,Go.Maps.atKey_del_other hne,if_neg e]
theorem keyStr_size (n:Nd) (hn:n.Ok):(keyStr n).size≤maxLen:=by
 have h1:=Lib.itoa_length_le n.op hn.op.1 hn.op.2
 have h2:=Lib.itoa_length_le n.width hn.width.1 hn.width.2
 have h3:=Lib.nDigits_le20 n.val hn.val
 have h4:=argBytes_length n.args hn.args
 have h5:=hn.few
 have h6:=hn.name
 have h7:n.name.data.toList.length=n.name.size:=data_length _
 have hm:maxLen=9223372036854775807:=rfl
 have:(keyStr n).size=(keyBytes n).length:=by unfold keyStr strOfNums;simp [ByteArray.size]
 rw [this,hm]
 unfold keyBytes
 simp only [List.length_append,List.length_cons,List.length_nil,Lib.decDigits_length]
 omega
def TabAt (b:Nat) (w:World) (o:Own) (g:Nat) (T:ByteArray→Option Int) (n:Nat):Prop :=
 ∃ m D,Blk w o b g #[.map (some m)] 92∧o m=b+1∧MapAt w m n D∧∀ k,tabOf D k=T k
def TabM (b:Nat):Nat→Prop:=fun x=>x=b∨x=b+1
theorem MapAt.lt {w:World} {m n:Nat} {D:DataW Value} (h:MapAt w m n D):m < w.heap.size:=h.2.lt
theorem TabAt.fr {b g n:Nat} {M:Nat→Prop} {w w':World} {o o':Own} {T:ByteArray→Option Int} (h:TabAt b w o g T n) (f:Kp M w o w' o') (hM:∀ x,TabM b x→¬ M x):TabAt b w' o' g T n:=by
 obtain ⟨m,D,h1,h2,h3,h4⟩:=h
 exact ⟨m,D,h1.fr f (hM _ (.inl rfl)),(f.own m h3.lt).trans h2,h3.at (f.block m h3.lt (by rw [h2];exact hM _ (.inr rfl))),h4⟩
set_option maxHeartbeats 400000 in
theorem tab_new (b:Nat) (w:World) (o:Own):Calls Tryz.prog 25 #[] w fun e w'=>∃ g o',e=.returned (.pointer (some ⟨g,0,none⟩))∧TabAt b w' o' g (fun _=>none) 0∧Fr (TabM b) w o w' o':=by
 have hmm:∀ w:World,(Instr.makeMap 90 none).run Tryz.prog w=.ok (.map (some w.heap.size)) (w.alloc (.map #[] 0)):=fun _=>rfl
 go_enter Tryz.func25,Tryz.ntmps25
 go_wp2
 go_ret
 refine ⟨_,(o.from_ w.heap.size (b+1)).from_ (w.heap.size+1) b,rfl,⟨w.heap.size,.map [],⟨by have:=blk_new (w.alloc (.map #[] 0)) (.cells #[.map (some w.heap.size)] 92);simpa using this,by rw [Own.from_ge (by simp)]⟩,by rw [Own.from_lt (by omega),Own.from_ge (Nat.le_refl _)],(MapAt.made w).at (by rw [Below.heap_alloc];simp),tabOf_empty⟩,?_⟩
 have f1:=((Fr.start (TabM b) w o (b+1) (.inr (.inr rfl))).alloc (.map #[] 0)).renew b (.inr (.inl rfl))
 rw [World.size_alloc]at f1
 exact f1.alloc _
set_option maxRecDepth 20000 in
set_option maxHeartbeats 400000 in
theorem made_calls {b g n:Nat} {w:World} {o:Own} {T:ByteArray→Option Int} (H:TabAt b w o g T n):Calls Tryz.prog 66 #[.pointer (some ⟨g,0,none⟩)] w fun e w'=>e=.returned (.bool true)∧w=w':=by
 obtain ⟨m,D,h1,_⟩:=H
 have h0:w.cell? ⟨g,0,none⟩=some (.map (some m)):=(blk_cell h1.1 0).trans rfl
 have q90:∀ (w:World) (r:Option Nat),(binOp .neq 90 (.map r) (.map none)).run Tryz.prog w=.ok (.bool (!r.isNone)) w:=fun w r=>Go.run_neq_map_nil w _ _ _ r Tryz.underlying90
 clear h1
 go_enter Tryz.func66,Tryz.ntmps66
 go_wp2
 go_ret
 exact ⟨rfl,rfl⟩
structure InTab (w wr:World) (cs:Array Value):Prop where
 bel:Below w.heap.size w wr
 box:wr.heap[w.heap.size]?=some (.cells cs 56 (0,0))
theorem InTab.drew {w wr:World} {cs:Array Value} (h:InTab w wr cs):InTab w wr.drew cs:=⟨h.bel.drew,h.box⟩
theorem InTab.alloc {w wr:World} {cs:Array Value} (h:InTab w wr cs) (X:Obj):InTab w (wr.alloc X) cs:=⟨h.bel.alloc (Nat.le_of_lt (blk_lt h.box)) X,blk_alloc h.box X⟩
theorem InTab.below {w wr w2:World} {cs:Array Value} (h:InTab w wr cs) (hb:Below wr.heap.size wr w2):InTab w w2 cs:=⟨h.bel.trans (hb.mono h.bel.size),blk_below h.box hb⟩
theorem InTab.set {w wr:World} {cs:Array Value} (h:InTab w wr cs) (i:Nat) (u:Value):InTab w (wr.setCell ⟨w.heap.size+1,i,none⟩ u) cs:=⟨h.bel.setCell (p:=⟨w.heap.size+1,i,none⟩) (by simp) u,blk_far h.box (p:=⟨w.heap.size+1,i,none⟩) (by simp) u⟩
theorem fresh_after {w w2:World} {o:Obj} {X:Array Value} {e:Nat} (hb:Below ((w.alloc o).alloc (.cells X e)).heap.size ((w.alloc o).alloc (.cells X e)).drew w2):w2.heap[w.heap.size+1]?=some (.cells X e (0,0)):=by
 have h:=blk_below (w:=((w.alloc o).alloc (.cells X e)).drew) (blk_new (w.alloc o) (.cells X e)) hb
 rwa [World.size_alloc]at h
end Go.Proofs.YtjckhhecnebmmaaGreatDoor.TU
end
section
namespace Go.Proofs.YtjckhhecnebmmaaGreatDoor.TU
open Go.RowKit Go.Proofs.YtjckhhecnebmmaaGreatDoorW.PrintWords Go.Proofs.YtjckhhecnebmmaaGreatDoorW.PrintLast Go.Proofs.YtjckhhecnebmmaaGreatDoorW.PrintMore Go.Proofs.YtjckhhecnebmmaaGreatDoor.QAll
attribute [local go_sem] max2_int min2_int max_two min_two max_three min_three max_four min_four
set_option linter.unusedVariables false
open Go.ChangeMaps Go.MapKept
open Classical in
noncomputable def heldE (S:Value→Prop) (v:Value):Option (DataW Value × List MemPlace):=if S v then some (.held v,[])else none
theorem heldE_mk {S:Value→Prop} {v:Value} (h:S v):heldE S v=some (.held v,[]):=if_pos h
theorem heldE_inv {S:Value→Prop} {v:Value} {z:DataW Value × List MemPlace} (h:heldE S v=some z):S v∧z=(.held v,[]):=by
 unfold heldE at h
 by_cases e:S v
 ·rw [if_pos e]at h;exact ⟨e,(Option.some.inj h).symm⟩
 ·rw [if_neg e]at h;cases h
def gOf (z:Value) (D:DataW Value) (kl:Lit):Option Value:=if Go.Maps.has D kl then (match D.atKey kl (.held z)with | .held v=>some v | _=>none)else none
def GMap (k:TypeId) (S:Value→Prop) (z:Value) (w:World) (m n:Nat) (F:Lit→Option Value):Prop:=∃ D,Go.Maps.IsMap D∧w.ownsMap Tryz.prog k (heldE S) m n D∧∀ kl,F kl=gOf z D kl
open Classical in
noncomputable def updF (F:Lit→Option Value) (kl:Lit) (v:Option Value):Lit→Option Value:=fun k'=>if k'=kl then v else F k'
section
variable {k t e:TypeId} {S:Value→Prop} {w w':World} {m n:Nat} {F:Lit→Option Value} {key:Value} {kl:Lit} {z:Value}
theorem GMap.lt (h:GMap k S z w m n F):m < w.heap.size:=by obtain ⟨D,_,h2,_⟩:=h;exact h2.lt
theorem GMap.at (h:GMap k S z w m n F) (hb:w'.heap[m]?=w.heap[m]?):GMap k S z w' m n F:=by
 obtain ⟨D,h1,⟨es,clock,h2,h3,h4,h5⟩,h6⟩:=h
 exact ⟨D,h1,⟨es,clock,hb.trans h2,h3,h4,h5⟩,h6⟩
theorem GMap.block (h:GMap k S z w m n F):∃ es clock,w.heap[m]?=some (.map es clock):=by
 obtain ⟨D,h1,⟨es,clock,h2,_⟩,h6⟩:=h
 exact ⟨es,clock,h2⟩
theorem GMap.mono (h:GMap k S z w m n F) {n':Nat} (hn:n≤n'):GMap k S z w m n' F:=by
 obtain ⟨D,h1,h2,h3⟩:=h
 exact ⟨D,h1,h2.mono hn,h3⟩
theorem GMap.made (k:TypeId) (S:Value→Prop) (z:Value) (w:World):GMap k S z (w.alloc (.map #[] 0)) w.heap.size 0 (fun _=>none):=⟨.map [],Go.Maps.isMap_empty,World.ownsMap_made _ _ _ _,fun _=>rfl⟩
theorem gOf_some {D:DataW Value} {v z:Value} (hz:D.atKey kl (.held z)=.held v):gOf z D kl=if Go.Maps.has D kl then some v else none:=by
 unfold gOf
 rw [hz]
set_option maxRecDepth 20000 in
theorem GMap.look (K:Go.Maps.Keyed Tryz.prog k) (ht:Tryz.prog.underlying t=some (.map k e)) (hz:∀ w,(zeroValue e).run Tryz.prog w=.ok z w) (hS:S z) (hkey:keyOf Tryz.prog k key=some kl) (h:GMap k S z w m n F) :
  S ((F kl).getD z)∧∀ w',w'.heap[m]?=w.heap[m]?→(Instr.lookup t (.map (some m)) key true).run Tryz.prog w'=.ok (.tuple #[(F kl).getD z,.bool (F kl).isSome]) w'∧(Instr.lookup t (.map (some m)) key false).run Tryz.prog w'=.ok ((F kl).getD z) w':=by
 have main:∀ w',w'.heap[m]?=w.heap[m]?→S ((F kl).getD z)∧(Instr.lookup t (.map (some m)) key true).run Tryz.prog w'=.ok (.tuple #[(F kl).getD z,.bool (F kl).isSome]) w'∧(Instr.lookup t (.map (some m)) key false).run Tryz.prog w'=.ok ((F kl).getD z) w':=fun w' hb=>by
  obtain ⟨D,h1,h2,h3⟩:=h.at hb
  obtain ⟨v,ps,hr,hv⟩:=h2.look_ok K ht (hz w') (heldE_mk hS) hkey
  obtain ⟨v',ps',hr',hv'⟩:=h2.lookup K ht (hz w') (heldE_mk hS) hkey
  obtain ⟨hSv,hq⟩:=heldE_inv hv
  obtain ⟨_,hq'⟩:=heldE_inv hv'
  have hd:D.atKey kl (.held z)=.held v:=(Prod.mk.inj hq).1
  have hd':D.atKey kl (.held z)=.held v':=(Prod.mk.inj hq').1
  have hvv:v'=v:=by rw [hd]at hd';injection hd' with h;exact h.symm
  subst hvv
  rw [h3,gOf_some hd]
  cases hh:Go.Maps.has D kl
  ·have hzz:=Go.Maps.atKey_of_not_has hh (.held z)
   rw [hd]at hzz
   injection hzz with hzz
   subst hzz
   rw [hh]at hr
   exact ⟨hSv,hr,hr'⟩
  ·rw [hh]at hr
   exact ⟨hSv,hr,hr'⟩
 exact ⟨(main w rfl).1,fun w' hb=>(main w' hb).2⟩
theorem gOf_put {D:DataW Value} (h1:Go.Maps.IsMap D) (K:Go.WideAt.IsKeyLit kl) (h3:∀ k',F k'=gOf z D k') (v:Value) (k':Lit):updF F kl (some v) k'=gOf z (D.put kl (.held v)) k':=by
 unfold updF gOf
 by_cases e:k'=kl
 ·subst e
  rw [if_pos rfl,Go.Maps.has_put_same h1 K,Go.Maps.atKey_put_same h1 K]
  rfl
 ·rw [if_neg e,Go.Maps.has_put_other e,Go.Maps.atKey_put_other e,h3]
  rfl
theorem GMap.update (K:Go.Maps.Keyed Tryz.prog k) (ht:Tryz.prog.underlying t=some (.map k e)) (hkey:keyOf Tryz.prog k key=some kl) (h:GMap k S z w m n F) (hn:n < maxLen) {v:Value} (hv:S v) :
  ∃ w',(Instr.mapUpdate t (.map (some m)) key v).run Tryz.prog w=.ok () w'∧GMap k S z w' m (n+1) (updF F kl (some v))∧w.grownBy w' (some m):=by
 obtain ⟨D,h1,h2,h3⟩:=h
 obtain ⟨w',hr,ho,hg⟩:=h2.update K ht hn hkey (heldE_mk hv)
 exact ⟨w',hr,⟨_,h1.put _ _,ho,gOf_put h1 (K.key hkey) h3 v⟩,hg⟩
theorem GMap.drop (K:Go.Maps.Keyed Tryz.prog k) (ht:Tryz.prog.underlying t=some (.map k e)) (hkey:keyOf Tryz.prog k key=some kl) (h:GMap k S z w m n F) (ty:TypeId) :
  ∃ w',(Builtin.delete_ #[t,k] ty #[.map (some m),key]).run Tryz.prog w=.ok (.tuple #[]) w'∧GMap k S z w' m n (updF F kl none)∧w.grownBy w' (some m):=by
 obtain ⟨D,h1,h2,h3⟩:=h
 obtain ⟨w',hr,ho,hg⟩:=h2.drop K ht hkey ty
 refine ⟨w',hr,⟨_,h1.del _,ho,fun k'=>?_⟩,hg.grown⟩
 unfold updF gOf
 by_cases e:k'=kl
 ·subst e
  rw [if_pos rfl,Go.Maps.has_del_same]
  rfl
 ·rw [if_neg e,Go.Maps.has_del_other e,Go.Maps.atKey_del_other e,h3]
  rfl
theorem GMap.entry (K:Go.Maps.Keyed Tryz.prog k) (ht:Tryz.prog.underlying t=some (.map k e)) (hz:∀ w,(zeroValue e).run Tryz.prog w=.ok z w) (hkey:keyOf Tryz.prog k key=some kl) (h:GMap k S z w m n F) (hn:n < maxLen) (hk:F kl≠none) :
  ∃ v st,(Instr.mapEntry t (.map (some m)) key).run Tryz.prog w=.ok (.tuple #[v,.int .i64 st]) w∧∀ w2 v,w2.heap[m]?=w.heap[m]?→S v→∃ w',(Instr.entryStore t (.map (some m)) (.int .i64 st) v).run Tryz.prog w2=.ok () w'∧GMap k S z w' m n (updF F kl (some v))∧w2.grownBy w' (some m):=by
 obtain ⟨D,h1,h2,h3⟩:=h
 have hhas:Go.Maps.has D kl=true:=by
  cases hh:Go.Maps.has D kl
  ·exact absurd (by rw [h3];unfold gOf;rw [hh];rfl) hk
  ·rfl
 have h2':=h2
 obtain ⟨es,clock,hb,Fi,hs,hD⟩:=h2
 rcases K.find w hkey es.toList Fi.keys with ⟨f1,f2⟩ | ⟨j,e0,f1,f2,f3⟩
 ·exfalso
  rcases Go.Maps.fit_look true K ht (hz w) hb Fi hkey with ⟨_,_,hat⟩ | ⟨e1,y,g1,g2,_⟩
  ·rw [← hD]at hat
   rw [Go.Maps.has_false_of_atKey hat]at hhas
   cases hhas
  ·exact f2 e1 g1 g2
 ·obtain ⟨s1,s2,s3⟩:=Fi.stamped
  have hj:es[j]?=some e0:=by simpa using f2
  have hsame:es.modify j (fun e=>{ e with key:=key })=es:=by
   apply Array.ext'
   rw [Array.toList_modify,ChangeMaps.modify_eq_set _ _ _ _ f2]
   have:({ e0 with key:=key }:MapEntry)=e0:=by rw [← f3]
   rw [this]
   exact WideElems.set_self _ _ _ f2
  have hw:setBlock w m (.map es clock)=w:=by
   have e:w.heap.setIfInBounds m (.map es clock)=w.heap:=by
    apply Array.ext_getElem?
    intro i
    by_cases hi:i=m
    ·subst hi
     exact (heap_setBlock_same hb _).trans hb.symm
    ·exact heap_setBlock_other hb _ hi
   unfold setBlock
   rw [e]
  refine ⟨e0.val,e0.born,?_,fun w2 v hb2 hv=>?_⟩
  ·have:(Instr.mapEntry t (.map (some m)) key).run Tryz.prog w=.ok (.tuple #[e0.val,goInt e0.born]) (setBlock w m (.map es clock)):=by
    simp [Instr.mapEntry,run_underlying ht,MapKept.run_getObj_map hb,K.check w false hkey,f1,hj,f3,K.stays w hkey,hsame,MapKept.run_setObj_map _ hb,Result.andThen,setBlock]
   rw [hw]at this
   exact this
  ·have hb2':=hb2.trans hb
   have hidx:es.findIdx? (fun e=>((e.born:Nat):Int) == ((e0.born:Nat):Int))=some j:=by
    rw [WideElems.findIdx_arr]
    exact WideElems.findIdx_born s2 f2
   have hmod:es.modify j (fun e=>{ e with val:=v })=es.modify j (fun e'=>{ e' with key:=key,val:=v }):=by
    apply Array.ext'
    rw [Array.toList_modify,Array.toList_modify,ChangeMaps.modify_eq_set _ _ _ _ f2,ChangeMaps.modify_eq_set _ _ _ _ f2,← f3]
   have f1':(Instr.findKey k key es.toList).run Tryz.prog w2=.ok (some (j,e0.val)) w2:=by
    rcases K.find w2 hkey es.toList Fi.keys with ⟨_,g2⟩ | ⟨j',e1,g1,g2,g3⟩
    ·exact absurd f3 (g2 e0 (List.mem_of_getElem? f2))
    ·have q1:(es.toList.map (·.key))[j']?=some key:=by rw [List.getElem?_map,g2,Option.map_some,g3]
     have q2:(es.toList.map (·.key))[j]?=some key:=by rw [List.getElem?_map,f2,Option.map_some,f3]
     have hlt:j' < (es.toList.map (·.key)).length:=by
      by_cases hl:j' < (es.toList.map (·.key)).length
      ·exact hl
      ·rw [List.getElem?_eq_none (by omega)]at q1;cases q1
     have hjj:j'=j:=(List.getElem?_inj hlt s3).1 (q1.trans q2.symm)
     subst hjj
     rw [f2]at g2
     rw [g1,Option.some.inj g2]
   have hst:(Instr.entryStore t (.map (some m)) (goInt e0.born) v).run Tryz.prog w2=.ok () (setBlock w2 m (.map (es.modify j (fun e'=>{ e' with key:=key,val:=v })) clock)):=by
    simp [Instr.entryStore,MapKept.run_getObj_map hb2',asInt,asIntOf,goInt,hidx,hmod,MapKept.run_setObj_map _ hb2',Result.andThen,setBlock]
   have hup:(Instr.mapUpdate t (.map (some m)) key v).run Tryz.prog w2=.ok () (setBlock w2 m (.map (es.modify j (fun e'=>{ e' with key:=key,val:=v })) clock)):=by
    simp [Instr.mapUpdate,run_underlying ht,MapKept.run_getObj_map hb2',K.check w2 false hkey,f1',hj,f3,K.stays w2 hkey,MapKept.run_setObj_map _ hb2',Result.andThen,setBlock]
   obtain ⟨w',hr,hg,hgr⟩:=GMap.update K ht hkey (GMap.at (w':=w2) ⟨D,h1,h2',h3⟩ hb2) hn hv
   rw [hup]at hr
   injection hr with _ hr
   subst hr
   obtain ⟨D',g1,⟨es',clock',g2,g3,_,g5⟩,g6⟩:=hg
   have e1:=g2.symm.trans (heap_setBlock_same hb2' _)
   injection e1 with e1
   injection e1 with e1 e2
   exact ⟨_,hst,⟨D',g1,⟨es',clock',g2,g3,by rw [e1,Array.size_modify];exact hs,g5⟩,g6⟩,hgr⟩
end
end Go.Proofs.YtjckhhecnebmmaaGreatDoor.TU
end
section
namespace Go.Proofs.YtjckhhecnebmmaaGreatDoor.TU
open Go.RowKit Go.Proofs.YtjckhhecnebmmaaGreatDoorW.PrintWords Go.Proofs.YtjckhhecnebmmaaGreatDoorW.PrintLast Go.Proofs.YtjckhhecnebmmaaGreatDoorW.PrintMore Go.Proofs.YtjckhhecnebmmaaGreatDoor.QAll
attribute [local go_sem] max2_int min2_int max_two min_two max_three min_three max_four min_four
set_option linter.unusedVariables false
structure S115 where
 f0:Bool
 f1:Int
def z115:S115:=⟨false,(0:Int)⟩
def k115:Kd S115:=Kd.iso (Kd.pair Kd.bool (Kd.int .i64)) (fun x:S115=>(x.f0,x.f1))
theorem k115_openM {w:World} {base:Nat} {ok:Nat→Prop} {x:S115} {cs:List Value} (h:k115.M w base ok x cs):cs=[.bool x.f0,.int .i64 x.f1]:=by
 obtain ⟨_,_,rfl,rfl,rfl⟩:=h
 exact rfl
theorem k115_mkM (w:World) (base:Nat) (ok:Nat→Prop) (x:S115)  : k115.M w base ok x [.bool x.f0,.int .i64 x.f1]:=⟨[.bool x.f0],[.int .i64 x.f1],rfl,rfl,rfl⟩
theorem inf3:(Tryz.prog.info? 3).map (fun i=>(i.zero,i.size,i.bytes))=some (some (.int .i64 0),1,8):=by kernel_rfl
theorem inf115:(Tryz.prog.info? 115).map (fun i=>(i.zero,i.size,i.bytes))=some (some (.agg #[.bool false,.int .i64 0]),2,16):=by kernel_rfl
def UF (B:Nat) (w:World) (g:Nat) (p:List Int) (t:List S115):Prop :=
 B≤g∧∃ vp vt,w.heap[g]?=some (.cells #[.bool true,vp,vt] 89 (0,0))∧Kd.R (Kd.int .i64) 3 w B (fun _=>True) vp p∧Kd.R k115 115 w B (fun _=>True) vt t
theorem UF.below {B:Nat} {w w':World} {g:Nat} {p:List Int} {t:List S115} (h:UF B w g p t) (hb:Below w.heap.size w w'):UF B w' g p t:=by
 obtain ⟨h1,vp,vt,h2,h3,h4⟩:=h
 exact ⟨h1,vp,vt,blk_below h2 hb,Kd.R_below h3 hb,Kd.R_below h4 hb⟩
set_option maxHeartbeats 400000 in
theorem valid_calls {B:Nat} {w:World} {g:Nat} {p:List Int} {t:List S115} (hU:UF B w g p t):Calls Tryz.prog 64 #[.pointer (some ⟨g,0,none⟩)] w fun e w'=>e=.returned (.bool true)∧w=w':=by
 obtain ⟨hB,vp,vt,hb,hp,ht⟩:=hU
 have h0:w.cell? ⟨g,0,none⟩=some (.bool true):=(blk_cell hb 0).trans rfl
 clear hb hp ht
 go_enter Tryz.func64,Tryz.ntmps64
 go_wp2
 go_ret
 exact ⟨rfl,rfl⟩
def inB (p:List Int) (x:Int):Bool:=decide (0≤x) && decide (x < (p.length:Int))
theorem inB_yes {p:List Int} {x:Int} (h0:0≤x) (h1:x < p.length):inB p x=true:=by simp [inB,h0,h1]
theorem inB_no {p:List Int} {x:Int} (h:¬ (0≤x∧x < p.length)):inB p x=false:=by
 by_cases h0:0≤x
 ·have:¬ x < p.length:=fun h1=>h ⟨h0,h1⟩
  simp [inB,this]
 ·simp [inB,h0]
set_option maxHeartbeats 400000 in
theorem has_calls {B:Nat} {w:World} {g:Nat} {p:List Int} {t:List S115} (hU:UF B w g p t) (hl:p.length≤1000) (x:Int):Calls Tryz.prog 56 #[.pointer (some ⟨g,0,none⟩),.int .i64 x] w fun e w'=>e=.returned (.bool (inB p x))∧w=w':=by
 have hv:=valid_calls hU
 obtain ⟨hB,vp,vt,hb,hp,ht⟩:=hU
 obtain ⟨A,c,rfl⟩:=Kd.R_slice hp
 have h1:w.cell? ⟨g,1,none⟩=some (.slice A p.length c):=(blk_cell hb 1).trans rfl
 clear hb hp ht
 by_cases h0:0≤x
 all_goals
  go_enter Tryz.func56,Tryz.ntmps56
  go_wp2_with (go_at_call 64;refine hv.mono ?_;rintro e w' ⟨rfl,rfl⟩)
  go_ret
  exact ⟨by first | (simp [inB,h0];done) | (simp [inB];omega),rfl⟩
set_option maxHeartbeats 400000 in
theorem len_calls {B:Nat} {w:World} {g:Nat} {p:List Int} {t:List S115} (hU:UF B w g p t):Calls Tryz.prog 91 #[.pointer (some ⟨g,0,none⟩)] w fun e w'=>e=.returned (.int .i64 p.length)∧w=w':=by
 have hv:=valid_calls hU
 obtain ⟨hB,vp,vt,hb,hp,ht⟩:=hU
 obtain ⟨A,c,rfl⟩:=Kd.R_slice hp
 have h1:w.cell? ⟨g,1,none⟩=some (.slice A p.length c):=(blk_cell hb 1).trans rfl
 clear hb hp ht
 go_enter Tryz.func91,Tryz.ntmps91
 go_wp2_with (go_at_call 64;refine hv.mono ?_;rintro e w' ⟨rfl,rfl⟩)
 go_ret
 exact ⟨rfl,rfl⟩
set_option maxHeartbeats 400000 in
theorem mark_calls {B:Nat} {w:World} {g:Nat} {p:List Int} {t:List S115} (hU:UF B w g p t):Calls Tryz.prog 42 #[.pointer (some ⟨g,0,none⟩)] w fun e w'=>e=.returned (.int .i64 t.length)∧w=w':=by
 have hv:=valid_calls hU
 obtain ⟨hB,vp,vt,hb,hp,ht⟩:=hU
 obtain ⟨A,c,rfl⟩:=Kd.R_slice ht
 have h1:w.cell? ⟨g,2,none⟩=some (.slice A t.length c):=(blk_cell hb 2).trans rfl
 clear hb hp ht
 go_enter Tryz.func42,Tryz.ntmps42
 go_wp2_with (go_at_call 64;refine hv.mono ?_;rintro e w' ⟨rfl,rfl⟩)
 go_ret
 exact ⟨rfl,rfl⟩
def root (p:List Int):Nat→Int→Int
 | 0,x=>x
 | n+1,x=>if rd p x=x then x else root p n (rd p x)
def Well (p:List Int):Prop:=∀ i:Int,0≤i→i < p.length→0≤rd p i∧rd p i≤i
theorem root_fuel {p:List Int} (hW:Well p):∀ (m n:Nat) (y:Int),0≤y→y < p.length→y.toNat≤m→y.toNat≤n→root p m y=root p n y:=by
 intro m
 induction m with
 | zero =>
  intro n y h0 h1 h2 h3
  have hy:y=0:=by omega
  subst hy
  have:=hW 0 (by omega) h1
  have e:rd p 0=0:=by omega
  cases n with
  | zero=>rfl
  | succ n=>simp [root,e]
 | succ m ih =>
  intro n y h0 h1 h2 h3
  have hw:=hW y h0 h1
  simp only [root]
  by_cases e:rd p y=y
  ·rw [if_pos e]
   cases n with
   | zero=>rfl
   | succ n=>simp [root,e]
  ·rw [if_neg e]
   cases n with
   | zero=>omega
   | succ n =>
    simp only [root]
    rw [if_neg e]
    exact ih n (rd p y) hw.1 (by omega) (by omega) (by omega)
def rt (p:List Int) (y:Int):Int:=root p y.toNat y
theorem rt_end {p:List Int} {y:Int} (e:rd p y=y):rt p y=y:=by
 unfold rt
 cases y.toNat with
 | zero=>rfl
 | succ n=>simp [root,e]
theorem rt_step {p:List Int} (hW:Well p) {y:Int} (h0:0≤y) (h1:y < p.length) (e:¬ rd p y=y):rt p y=rt p (rd p y):=by
 have hw:=hW y h0 h1
 unfold rt
 obtain ⟨n,hn⟩:∃ n,y.toNat=n+1:=⟨y.toNat - 1,by omega⟩
 rw [hn]
 simp only [root]
 rw [if_neg e]
 exact root_fuel hW _ _ _ hw.1 (by omega) (by omega) (by omega)
def fnd (p:List Int) (x:Int):Int:=if inB p x=true then rt p x else -1
theorem cell_at {B:Nat} {w:World} {b:Nat} {p:List Int} {n c:Nat} (hp:Kd.R (Kd.int .i64) 3 w B (fun _=>True) (.slice (some ⟨b,0,none⟩) n c) p) (i:Int) (h0:0≤i) (h1:i < n):w.cell? ⟨b,i.toNat,none⟩=some (.int .i64 (rd p i)) :=
 (Kd.R_celln 0 hp i h0 h1).1
set_option maxHeartbeats 800000 in
theorem find_calls {B:Nat} {w:World} {g:Nat} {p:List Int} {t:List S115} (hU:UF B w g p t) (hl:p.length≤1000) (hW:Well p) (x:Int):Calls Tryz.prog 49 #[.pointer (some ⟨g,0,none⟩),.int .i64 x] w fun e w'=>e=.returned (.int .i64 (fnd p x))∧w=w':=by
 have hh:=has_calls hU hl x
 obtain ⟨hB,vp,vt,hb,hp,ht⟩:=hU
 by_cases hx:0≤x∧x < p.length
 ·have hin:=inB_yes hx.1 hx.2
  rw [hin]at hh
  have hf:fnd p x=rt p x:=by unfold fnd;rw [if_pos hin]
  rw [hf]
  have Hin:=Lib.hid hin
  clear hin hf
  obtain ⟨b,c,rfl,hbb,_,_⟩:=Kd.R_form hp (by omega)
  have h1:w.cell? ⟨g,1,none⟩=some (.slice (some ⟨b,0,none⟩) p.length c):=(blk_cell hb 1).trans rfl
  obtain ⟨h0x,h1x⟩:=hx
  have HP:=Lib.hid hp
  have HW:=Lib.hid hW
  clear hb hp ht hW
  go_enter Tryz.func49,Tryz.ntmps49
  go_wp2_with (go_at_call 56;refine hh.mono ?_;rintro e w' ⟨rfl,rfl⟩)
  go_loop [5] (fun r=>∃ y:Int,0≤y∧y < p.length∧r=.int .i64 y∧Hid (rt p x=rt p y)) (fun r=>(intOf r).toNat)
  case atStart=>exact ⟨x,h0x,h1x,rfl,rfl⟩
  case round =>
   obtain ⟨y,h0,h2,rfl,hr⟩:=hrel
   have hc:=cell_at HP.out y h0 h2
   have hw:=HW.out y h0 h2
   by_cases e:rd p y=y
   ·have e1:(rd p y == y)=true:=by simpa using e
    have e2:(rd p y != y)=false:=by simpa using e
    have E:=Lib.hid e
    clear e
    go_wp2
    go_ret
    exact ⟨by rw [hr.out,rt_end E.out];rfl,rfl⟩
   ·have e2:(rd p y != y)=true:=by simpa using e
    have hst:=Lib.hid (rt_step HW.out h0 h2 e)
    have hlt:rd p y < y:=by omega
    clear e
    go_wp2
    go_round
    case rel=>exact ⟨rd p y,by omega,by omega,rfl,hr.out.trans hst.out⟩
    case measure=>simp [intOf];omega
 ·have hin:=inB_no hx
  rw [hin]at hh
  have hf:fnd p x=-1:=by unfold fnd;rw [hin];rfl
  rw [hf]
  clear hin hf hb hp ht
  go_enter Tryz.func49,Tryz.ntmps49
  go_wp2_with (go_at_call 56;refine hh.mono ?_;rintro e w' ⟨rfl,rfl⟩)
  go_ret
  exact ⟨rfl,rfl⟩
set_option maxHeartbeats 400000 in
theorem same_calls {B:Nat} {w:World} {g:Nat} {p:List Int} {t:List S115} (hU:UF B w g p t) (hl:p.length≤1000) (hW:Well p) (a b:Int):Calls Tryz.prog 37 #[.pointer (some ⟨g,0,none⟩),.int .i64 a,.int .i64 b] w fun e w'=>e=.returned (.bool (inB p a && (fnd p a == fnd p b)))∧w=w':=by
 have hh:=has_calls hU hl a
 have ha:=find_calls hU hl hW a
 have hb:=find_calls hU hl hW b
 clear hU
 cases hin:inB p a
 ·rw [hin]at hh
  clear hin ha hb
  go_enter Tryz.func37,Tryz.ntmps37
  go_wp2_with (go_at_call 56;refine hh.mono ?_;rintro e w' ⟨rfl,rfl⟩)
  go_ret
  exact ⟨by simp,rfl⟩
 ·rw [hin]at hh
  clear hin
  go_enter Tryz.func37,Tryz.ntmps37
  go_wp2_with (go_at_call 56;refine hh.mono ?_;rintro e w' ⟨rfl,rfl⟩)
  refine ha.mono ?_
  rintro e w' ⟨rfl,rfl⟩
  go_wp2_with fail
  refine hb.mono ?_
  rintro e w' ⟨rfl,rfl⟩
  go_wp2
  go_ret
  exact ⟨by simp,rfl⟩
theorem root_range {p:List Int} (hW:Well p):∀ (n:Nat) (y:Int),0≤y→y < p.length→0≤root p n y∧root p n y≤y:=by
 intro n
 induction n with
 | zero=>intro y h0 h1;exact ⟨h0,Int.le_refl _⟩
 | succ n ih =>
  intro y h0 h1
  have hw:=hW y h0 h1
  simp only [root]
  split
  ·exact ⟨h0,Int.le_refl _⟩
  ·have:=ih (rd p y) hw.1 (by omega)
   exact ⟨this.1,by omega⟩
theorem fnd_in {p:List Int} (hW:Well p) {x:Int} (h:inB p x=true):0≤fnd p x∧fnd p x < p.length:=by
 have hx:0≤x∧x < p.length:=by simpa [inB]using h
 unfold fnd
 rw [if_pos h]
 have:=root_range hW x.toNat x hx.1 hx.2
 unfold rt
 exact ⟨this.1,by omega⟩
theorem fnd_out {p:List Int} {x:Int} (h:inB p x=false):fnd p x=-1:=by unfold fnd;rw [h];rfl
theorem fnd_lt {p:List Int} (hW:Well p) (x:Int):fnd p x < p.length:=by
 cases h:inB p x
 ·rw [fnd_out h];omega
 ·exact (fnd_in hW h).2
set_option maxHeartbeats 800000 in
theorem union_eq {B:Nat} {w:World} {g:Nat} {p:List Int} {t:List S115} (hU:UF B w g p t) (hl:p.length≤1000) (hW:Well p) (a b:Int) (h0:0≤fnd p a) (h:fnd p b=fnd p a) :
  Calls Tryz.prog 57 #[.pointer (some ⟨g,0,none⟩),.int .i64 a,.int .i64 b] w fun e w'=>e=.returned (.tuple #[.int .i64 (fnd p a),.bool false])∧w=w':=by
 have hv:=valid_calls hU
 have ha:=find_calls hU hl hW a
 have hb:=find_calls hU hl hW b
 rw [h]at hb
 clear hU hW h
 generalize fnd p a=x at *
 go_enter Tryz.func57,Tryz.ntmps57
 go_wp2_with (go_at_call 64;refine hv.mono ?_;rintro e w' ⟨rfl,rfl⟩)
 refine ha.mono ?_
 rintro e w' ⟨rfl,rfl⟩
 go_wp2_with fail
 refine hb.mono ?_
 rintro e w' ⟨rfl,rfl⟩
 go_wp2
 go_ret2
 exact ⟨rfl,rfl⟩
theorem UF.drewN {B:Nat} {w:World} {g:Nat} {p:List Int} {t:List S115} (h:UF B w g p t) (n:Nat):UF B (w.drewN n) g p t:=h
set_option maxHeartbeats 400000 in
theorem members1_calls {B:Nat} {w:World} {g:Nat} {p:List Int} {t:List S115} (hU:UF B w g p t) (hl:p.length≤1000) (hW:Well p) (bs br:Nat) (r:Int) (hs:w.cell? ⟨bs,0,none⟩=some (.pointer (some ⟨g,0,none⟩))) (hr:w.cell? ⟨br,0,none⟩=some (.int .i64 r)) (x:Int) :
  Calls Tryz.prog 82 #[.int .i64 x,.pointer (some ⟨bs,0,none⟩),.pointer (some ⟨br,0,none⟩)] w fun e w'=>e=.returned (.bool (fnd p x == r))∧∃ n,w'=w.drewN n:=by
 have hf:∀ n,Calls Tryz.prog 49 #[.pointer (some ⟨g,0,none⟩),.int .i64 x] (w.drewN n) fun e w'=>e=.returned (.int .i64 (fnd p x))∧w'=w.drewN n:=fun n=>(find_calls (hU.drewN n) hl hW x).mono fun _ _ ⟨a,b⟩=>⟨a,b.symm⟩
 clear hU hW
 go_enter Tryz.func82,Tryz.ntmps82
 go_wp2
 go_quiet ((go_at_call 49;exact Calls.quiet_of_same (hf _)))
 go_wp2
 go_ret
 exact ⟨rfl,_,rfl⟩
def pick (want:Int→Bool):Nat→List Int
 | 0=>[]
 | n+1=>if want n=true then pick want n++[(n:Int)]else pick want n
theorem pick_length (want:Int→Bool) (n:Nat):(pick want n).length≤n:=by
 induction n with
 | zero=>simp [pick]
 | succ n ih =>
  simp only [pick]
  split
  ·rw [List.length_append,List.length_singleton];omega
  ·omega
set_option maxHeartbeats 1600000 in
theorem collect30 {B:Nat} {w:World} {g:Nat} {p:List Int} {t:List S115} (hU:UF B w g p t) (hl:p.length≤1000) (hW:Well p) (bs br:Nat) (r:Int) (hr:w.cell? ⟨br,0,none⟩=some (.int .i64 r)) (hs:w.cell? ⟨bs,0,none⟩=some (.pointer (some ⟨g,0,none⟩))) :
  Calls Tryz.prog 81 #[.pointer (some ⟨g,0,none⟩),.func (.func 82) #[] #[.pointer (some ⟨bs,0,none⟩),.pointer (some ⟨br,0,none⟩)]] w fun e w'=>∃ v,e=.returned v∧Kd.R (Kd.int .i64) 3 w' w.heap.size (fun _=>True) v (pick (fun x=>fnd p x == r) p.length)∧Below w.heap.size w w':=by
 have hlen:=len_calls hU
 have HU:=Lib.hid hU
 have HS:=Lib.hid hs
 have HR:=Lib.hid hr
 have HW:=Lib.hid hW
 clear hU hs hr hW
 go_enter Tryz.func81,Tryz.ntmps81
 go_wp2_with (go_at_call 91;refine hlen.mono ?_;rintro e w' ⟨rfl,rfl⟩)
 go_loopw [5,9] (fun v i wr=>∃ k:Nat,k≤p.length∧i=.int .i64 k∧Hid (Kd.R (Kd.int .i64) 3 wr w.heap.size (fun _=>True) v (pick (fun x=>fnd p x == r) k))∧Hid (Below w.heap.size w wr)) (fun _ i _=>p.length - (intOf i).toNat)
 case atStart=>exact ⟨0,Nat.zero_le _,rfl,Kd.R_nil _ _ _ _ _,Below.refl _ _⟩
 case round =>
  obtain ⟨k,hk,rfl,R1,B1⟩:=hrel
  obtain ⟨A,c,hv⟩:=Kd.R_slice R1.out
  subst hv
  have hpl:=pick_length (fun x=>fnd p x == r) k
  by_cases hlt:k < p.length
  ·have hc:=members1_calls (HU.out.below B1.out) hl HW.out bs br r ((B1.out.cell (World.block_lt_of_cell? w _ HS.out)).trans HS.out) ((B1.out.cell (World.block_lt_of_cell? w _ HR.out)).trans HR.out) k
   have hsz:=B1.out.size
   cases hw:(fnd p k == r)
   ·rw [hw]at hc
    have hp1:pick (fun x=>fnd p x == r) (k+1)=pick (fun x=>fnd p x == r) k:=by simp only [pick,hw];simp
    have HP:=Lib.hid hp1
    clear hw hp1
    go_wp2_with (go_at_call 82;refine hc.mono ?_;rintro e w2 ⟨rfl,nq,hq⟩;have R2:=Lib.hid (hq ▸ Kd.R_drewN R1.out nq);have B2:=Lib.hid (hq ▸ pw_below_drewN B1.out nq);have hsz2:w.heap.size≤w2.heap.size:=B2.out.size;clear hq)
    go_roundw
    case rel=>exact ⟨k+1,by omega,by go_num,by unfold Hid;rw [HP.out];exact R2.out,B2⟩
    case measure=>simp [intOf];omega
   ·rw [hw]at hc
    have hp1:pick (fun x=>fnd p x == r) (k+1)=pick (fun x=>fnd p x == r) k++[(k:Int)]:=by simp only [pick,hw];simp
    have HP:=Lib.hid hp1
    clear hw hp1
    generalize pick (fun x=>fnd p x == r) k=l at *
    go_wp2_with (first
     | (go_at_call 82;refine hc.mono ?_;rintro e w2 ⟨rfl,nq,hq⟩;have R2:=Lib.hid (hq ▸ Kd.R_drewN R1.out nq);have B2:=Lib.hid (hq ▸ pw_below_drewN B1.out nq);have hsz2:w.heap.size≤w2.heap.size:=B2.out.size;clear hq)
     | ((with_reducible refine gate_builtin (b:=.append) (xs:=#[.tmp 15,.tmp 17]) rfl ?_);at_builtin;refine Kd.R_append (Kd.int .i64) (w0:=w) w.heap.size rfl (.tmp 15) (.tmp 17) 26 3 (.int .i64 0) 8 rfl Tryz.underlying26 inf3 rfl (by decide) (by omega) (.slice A l.length c) l (k:Int) [.int .i64 (k:Int)] (fun _=>True) (fun _=>False) rfl rfl ?aP (fun _ hk=>hk.elim) (fun _ _=>trivial) R2.out B2.out ?aS ?aL ?_;(case aP=>exact rfl);(case aS=>omega);(case aL=>omega);intro v1 w1 hp1 hb1 hg1 _;have HP1:=Lib.hid hp1;have HB1:=Lib.hid hb1;clear hp1 hb1 hg1))
    go_roundw
    case rel=>exact ⟨k+1,by omega,by go_num,by unfold Hid;rw [HP.out];exact HP1.out,HB1⟩
    case measure=>simp [intOf];omega
  ·have hkl:k=p.length:=by omega
   subst hkl
   go_wp2
   go_ret
   exact ⟨_,rfl,R1.out,B1.out⟩
def mem (p:List Int) (x:Int):List Int:=if inB p x=true then pick (fun y=>fnd p y == fnd p x) p.length else []
set_option maxHeartbeats 800000 in
theorem members_calls {B:Nat} {w:World} {g:Nat} {p:List Int} {t:List S115} (hU:UF B w g p t) (hl:p.length≤1000) (hW:Well p) (x:Int) :
  Calls Tryz.prog 59 #[.pointer (some ⟨g,0,none⟩),.int .i64 x] w fun e w'=>∃ v,e=.returned v∧Kd.R (Kd.int .i64) 3 w' w.heap.size (fun _=>True) v (mem p x)∧Below w.heap.size w w':=by
 have hb1:=below_alloc (Below.refl w.heap.size w) (.cells #[.pointer (some ⟨g,0,none⟩)] 58)
 have hf:=find_calls (hU.below hb1) hl hW x
 have hmf:∀ (fn:Fn) (first cap:Array Value) (w:World),(Instr.makeFunc fn first cap).run Tryz.prog w=.ok (.func fn first cap) w:=fun _ _ _ _=>rfl
 cases hin:inB p x
 ·have hm:mem p x=[]:=by unfold mem;rw [hin];rfl
  rw [hm]
  rw [fnd_out hin]at hf
  have HB:=Lib.hid hb1
  clear hU hb1 hin hm hW
  go_enter Tryz.func59,Tryz.ntmps59
  go_wp2_with (go_at_call 49;refine hf.mono ?_;rintro e w' ⟨rfl,rfl⟩)
  go_ret
  exact ⟨_,rfl,Kd.R_nil _ _ _ _ _,HB.out.alloc (by simp) _⟩
 ·have hm:mem p x=pick (fun y=>fnd p y == fnd p x) p.length:=by unfold mem;rw [hin];rfl
  rw [hm]
  have hr:=fnd_in hW hin
  have hb2:Below w.heap.size w ((w.alloc (.cells #[.pointer (some ⟨g,0,none⟩)] 58)).alloc (.cells #[.int .i64 (fnd p x)] 3)):=hb1.alloc (by simp) _
  have hc:=collect30 (hU.below hb2) hl hW w.heap.size (w.heap.size+1) (fnd p x) ((World.cell?_alloc_at _ _ _ _ (by simp)).trans rfl) ((World.cell?_alloc_past _ _ _ (by simp)).trans ((World.cell?_alloc_at _ _ _ _ rfl).trans rfl))
  have HB:=Lib.hid hb2
  have hr0:=hr.1
  clear hU hb1 hb2 hin hm hW hr
  generalize fnd p x=r at *
  go_enter Tryz.func59,Tryz.ntmps59
  go_wp2_with (first | (go_at_call 49;refine hf.mono ?_;rintro e w' ⟨rfl,rfl⟩) | (go_at_call 81;refine hc.mono ?_;rintro e w' ⟨v,rfl,hR,hB⟩;have HR:=Lib.hid hR;have HB2:=Lib.hid hB;obtain ⟨A,c,hv⟩:=Kd.R_slice hR;subst hv;clear hR hB))
  go_ret
  exact ⟨_,rfl,Kd.R_lower HR.out (by simp;omega),below_step HB.out HB2.out⟩
end Go.Proofs.YtjckhhecnebmmaaGreatDoor.TU
end

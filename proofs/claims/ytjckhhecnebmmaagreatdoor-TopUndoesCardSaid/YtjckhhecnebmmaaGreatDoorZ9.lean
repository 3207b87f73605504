/- Steps towards the law TopUndoes; words printed by the kit, and printed texts, are cut to what is used, and spaces are left out. No condition. -/
import Derived.Test.YtjckhhecnebmmaaGreatDoorZ8
import Derived.Test.YtjckhhecnebmmaaGreatDoorZ6
set_option linter.unusedVariables false
set_option linter.unusedSimpArgs false
section
namespace Go.Proofs.YtjckhhecnebmmaaGreatDoor.TU
open Go.RowKit Go.Proofs.YtjckhhecnebmmaaGreatDoorW.PrintWords Go.Proofs.YtjckhhecnebmmaaGreatDoorW.PrintLast Go.Proofs.YtjckhhecnebmmaaGreatDoorW.PrintMore Go.Proofs.YtjckhhecnebmmaaGreatDoor.QAll
attribute [local go_sem] max2_int min2_int max_two min_two max_three min_three max_four min_four
set_option linter.unusedVariables false
theorem MapAt.drop {w w':World} {m n:Nat} {D:DataW Value} {k:ByteArray} (h:MapAt w m n D) (h':w'.ownsMap Tryz.prog 9 entryElem m n (D.del (lits_ k))):MapAt w' m n (D.del (lits_ k)):=⟨h.1.del _,h'⟩
set_option maxRecDepth 20000 in
set_option maxHeartbeats 6400000 in
theorem del_calls {b B g N:Nat} {w:World} {o:Own} {T:ByteArray→Option Int} (H:TabAt b w o g T N) (n:Nd) (va:Value) (hA:Held w va n.args) (hn:n.Ok) (htab:Tab B w) (hB:B≤w.heap.size) :
  Calls Tryz.prog 62 #[.pointer (some ⟨g,0,none⟩),.agg (n.cells va)] w fun e w'=>∃ o',e=.returned (.bool (T (keyStr n)).isSome)∧TabAt b w' o' g (delT T (keyStr n)) N∧Fr (TabM b) w o w' o':=by
 have hks:=keyStr_size n hn
 have hk:∀ wr,Below w.heap.size w wr→Calls Tryz.prog 67 #[.agg (n.cells va)] wr fun e w'=>e=.returned (.string (keyStr n))∧Below wr.heap.size wr w':=fun wr hb=>by
  obtain ⟨A,c,hva,hlc,hC⟩:=hA
  exact key_calls n va A c hva (Kd.C_below hC hb) hn (htab.on (hb.mono hB)) (Nat.le_trans hB hb.size)
 obtain ⟨m,D,h1,h2,h3,h4⟩:=id H
 have hmd:=fun wr (hb:Below w.heap.size w wr)=>made_calls (H.fr ((Kp.refl (fun _=>False) w o).below hb) (fun _ _ h=>h))
 obtain ⟨ea,eb,ec,es,eA,el,ecp,hl0⟩:=h3.look (keyStr n) hks
 rw [h4]at hl0
 have hmlt:=h3.lt
 have hgm:some g≠some m:=by
  intro e
  obtain ⟨_,es,clock,hh,_⟩:=h3
  rw [← Option.some.inj e,h1.1]at hh
  cases hh
 have hup:∀ wr,Below w.heap.size w wr→∃ w',(Builtin.delete_ #[90,9] 0 #[.map (some m),.string (keyStr n)]).run Tryz.prog wr=.ok (.tuple #[]) w'∧MapAt w' m N (D.del (lits_ (keyStr n)))∧wr.grownBy w' (some m):=fun wr hb=>by
  obtain ⟨w',hr,ho,ht⟩:=(h3.at (hb.block m hmlt)).2.drop (Go.Maps.string_keyed Tryz.underlying9) Tryz.underlying90 (Go.WideMaps.keyOf_string_mk Tryz.underlying9 hks) 0
  exact ⟨w',hr,MapAt.drop h3 ho,ht.grown⟩
 have hb1:=below_alloc (Below.refl w.heap.size w) (.cells (n.cells va) 56)
 have hI:InTab w (w.alloc (.cells (n.cells va) 56)) (n.cells va):=⟨hb1,blk_new _ _⟩
 have LIMB:=Lib.hid (fun wr (h:InTab w wr (n.cells va))=>show
   (wr.cell? ⟨g,0,none⟩=some (.map (some m))∧wr.cell? ⟨w.heap.size,0,none⟩=some (.int .i64 n.op)∧wr.cell? ⟨w.heap.size,1,none⟩=some (.int .i64 n.width)∧wr.cell? ⟨w.heap.size,2,none⟩=some (.int .u64 n.val)∧wr.cell? ⟨w.heap.size,3,none⟩=some (.string n.name)∧wr.cell? ⟨w.heap.size,4,none⟩=some va)from
  ⟨(blk_cell (blk_below h1.1 h.bel) 0).trans rfl,(blk_cell h.box 0).trans rfl,(blk_cell h.box 1).trans rfl,(blk_cell h.box 2).trans rfl,(blk_cell h.box 3).trans rfl,(blk_cell h.box 4).trans rfl⟩)
 have HI:=Lib.hid hI
 have HK:=Lib.hid hk
 have HM:=Lib.hid hmd
 have HUP:=Lib.hid hup
 have HH:=Lib.hid H
 have HL:=Lib.hid (fun wr (hb:Below w.heap.size w wr)=>hl0 wr (hb.block m hmlt))
 have HG:=Lib.hid (And.intro h1 h2)
 have HT4:=Lib.hid h4
 have HKS:=Lib.hid hks
 clear hk hmd hI hb1 hl0 hup h1 h2 h3 h4 hA hn H htab hks
 generalize keyStr n=ks at *
 simp only [Nd.cells]at HK HI LIMB ⊢
 cases hT:T ks with
 | none =>
  simp only [hT,Option.getD_none,Option.isSome_none,entryV]at HL
  simp only [Option.isNone_none,Option.isSome_none]
  go_enter Tryz.func62,Tryz.ntmps62
  go_wp2_with (first
   | (go_at_call 66;refine (HM.out _ HI.out.bel).mono ?_;rintro e w' ⟨rfl,rfl⟩)
   | (go_at_call 67;refine (HK.out _ HI.out.bel).mono ?_;rintro e w2 ⟨rfl,hb2⟩;have HI2:=Lib.hid (HI.out.below hb2);have hl:=HL.out w2 HI2.out.bel;obtain ⟨q0,q1,q2,q3,q4,q5⟩:=LIMB.out _ HI2.out;clear hb2))
  go_ret
  refine ⟨_,rfl,?_,Fr.of_below (HI2.out.alloc _).bel 0 (.inl rfl)⟩
  have hd:delT T ks=T:=by funext k';unfold delT;split <;> simp_all
  rw [hd]
  exact HH.out.fr (((Kp.refl (fun _=>False) w o).renew 0).below (HI2.out.alloc _).bel) (fun _ _ h=>h)
 | some y =>
  simp only [hT,Option.getD_some,Option.isSome_some,entryV]at HL
  simp only [Option.isNone_some,Option.isSome_some]
  go_enter Tryz.func62,Tryz.ntmps62
  go_wp2_with (first
   | (go_at_call 66;refine (HM.out _ HI.out.bel).mono ?_;rintro e w' ⟨rfl,rfl⟩)
   | (go_at_call 67;refine (HK.out _ HI.out.bel).mono ?_;rintro e w2 ⟨rfl,hb2⟩;have HI2:=Lib.hid (HI.out.below hb2);have hl:=HL.out w2 HI2.out.bel;obtain ⟨q0,q1,q2,q3,q4,q5⟩:=LIMB.out _ HI2.out;have p0:=(LIMB.out _ (HI2.out.alloc (.cells #[.int .i64 ea,.int .i64 eb,.int .u64 ec,.string es,.slice eA el ecp,.int .i64 y] 121))).1;obtain ⟨w4,hru,hmm,hgr⟩:=HUP.out _ (HI2.out.alloc (.cells #[.int .i64 ea,.int .i64 eb,.int .u64 ec,.string es,.slice eA el ecp,.int .i64 y] 121)).bel;clear hb2))
  go_ret
  have hmlt':=hmlt
  have hom:o.from_ w.heap.size 0 m=b+1:=(Own.from_lt hmlt).trans HG.out.2
  have hgl:=blk_lt HG.out.1.1
  have hbl:=(HI2.out.alloc (.cells #[.int .i64 ea,.int .i64 eb,.int .u64 ec,.string es,.slice eA el ecp,.int .i64 y] 121)).bel
  refine ⟨o.from_ w.heap.size 0,rfl,⟨m,_,⟨(hgr.block g (Nat.lt_of_lt_of_le hgl hbl.size) hgm).trans (blk_below HG.out.1.1 hbl),(Own.from_lt hgl).trans HG.out.1.2⟩,hom,hmm,fun k=>by rw [tabOf_del,HT4.out];rfl⟩,?_⟩
  exact ((Fr.start (TabM b) w o 0 (.inl rfl)).below hbl).grown hgr (fun k e=>.inl (by rw [← Option.some.inj e,hom];exact .inr rfl))
end Go.Proofs.YtjckhhecnebmmaaGreatDoor.TU
end
section
namespace Go.Proofs.YtjckhhecnebmmaaGreatDoor.TU
open Go.RowKit Go.Proofs.YtjckhhecnebmmaaGreatDoorW.PrintWords Go.Proofs.YtjckhhecnebmmaaGreatDoorW.PrintLast Go.Proofs.YtjckhhecnebmmaaGreatDoorW.PrintMore Go.Proofs.YtjckhhecnebmmaaGreatDoor.QAll
attribute [local go_sem] max2_int min2_int max_two min_two max_three min_three max_four min_four
set_option linter.unusedVariables false
def flat {α:Type} (sz:Nat) (enc:α→List Value) (hl:∀ x,(enc x).length=sz) (h1:∀ x,∀ u∈enc x,u.oneCell'=true):Kd α where
 sz:=sz
 E:=[]
 K:=fun _ x cs=>cs=enc x
 M:=fun _ _ _ x cs=>cs=enc x
 K_len:=fun h=>by rw [h];exact hl _
 K_one:=fun h u hu=>by rw [h]at hu;exact h1 _ u hu
 K_below:=fun _ h=>h
 K_of_M:=fun h=>h
 M_mono:=fun _ h=>h
 M_bound:=fun h=>h
 M_move:=fun _ h=>h
 M_lower:=fun _ h=>h
structure SL where
 A:Option Addr
 n:Nat
 c:Nat
def SL.v (s:SL):Value:=.slice s.A s.n s.c
def kSL:Kd SL:=flat 1 (fun s=>[s.v]) (fun _=>rfl) (fun s u hu=>by rw [List.mem_singleton.1 hu];rfl)
structure NV where
 nd:Nd
 va:SL
def kNV:Kd NV:=flat 5 (fun r=>[.int .i64 r.nd.op,.int .i64 r.nd.width,.int .u64 r.nd.val,.string r.nd.name,r.va.v]) (fun _=>rfl) (fun r u hu=>by
 simp only [List.mem_cons,List.not_mem_nil,or_false]at hu
 rcases hu with rfl | rfl | rfl | rfl | rfl <;> rfl)
structure MV where
 nodes:Int
 links:Int
 sets:Int
 keys:SL
 todo:SL
 dirty:Bool
def kMV:Kd MV:=flat 6 (fun r=>[.int .i64 r.nodes,.int .i64 r.links,.int .i64 r.sets,r.keys.v,r.todo.v,.bool r.dirty]) (fun _=>rfl) (fun r u hu=>by
 simp only [List.mem_cons,List.not_mem_nil,or_false]at hu
 rcases hu with rfl | rfl | rfl | rfl | rfl | rfl <;> rfl)
structure Mk where
 nodes:Nat
 links:Nat
 sets:Nat
 keys:List Nd
 todo:List Int
 dirty:Bool
def NodesRow (w:World) (o:Own) (t:Nat) (v:Value) (ns:List Nd):Prop:=∃ rs:List NV,Row kNV 56 w o t v rs∧rs.map NV.nd=ns∧∀ r∈rs,Imm w o r.va.v r.nd.args
def UsersRow (w:World) (o:Own) (t:Nat) (v:Value) (us:List (List Int)):Prop :=
 ∃ rs:List SL,Row kSL 26 w o t v rs∧rs.length=us.length∧(∀ (i:Nat) (r:SL) (u:List Int),rs[i]?=some r→us[i]?=some u→Row (Kd.int .i64) 3 w o (t+1) r.v u) ∧
  ∀ (i j:Nat) (r r':SL) (q:Nat),rs[i]?=some r→rs[j]?=some r'→r.v.ownBlock=some q→r'.v.ownBlock=some q→i=j
def MarkOk (w:World) (o:Own) (r:MV) (m:Mk):Prop:=r.nodes=m.nodes∧r.links=m.links∧r.sets=m.sets∧r.dirty=m.dirty∧NodesRow w o 0 r.keys.v m.keys∧Row (Kd.int .i64) 3 w o 0 r.todo.v m.todo
def MarksRow (w:World) (o:Own) (t:Nat) (v:Value) (ms:List Mk):Prop:=∃ rs:List MV,Row kMV 98 w o t v rs∧rs.length=ms.length∧∀ (i:Nat) (r:MV) (m:Mk),rs[i]?=some r→ms[i]?=some m→MarkOk w o r m
section
variable {M:Nat→Prop} {w w':World} {o o':Own} {t:Nat} {v:Value}
theorem NodesRow.fr {ns:List Nd} (h:NodesRow w o t v ns) (f:Kp M w o w' o') (ht:¬ M t) (h0:¬ M 0):NodesRow w' o' t v ns:=by
 obtain ⟨rs,h1,h2,h3⟩:=h
 exact ⟨rs,h1.fr f ht,h2,fun r hr=>(h3 r hr).fr f h0⟩
theorem UsersRow.fr {us:List (List Int)} (h:UsersRow w o t v us) (f:Kp M w o w' o') (ht:¬ M t) (h1:¬ M (t+1)):UsersRow w' o' t v us:=by
 obtain ⟨rs,g1,g2,g3,g4⟩:=h
 exact ⟨rs,g1.fr f ht,g2,fun i r u hi hu=>(g3 i r u hi hu).fr f h1,g4⟩
theorem MarksRow.fr {ms:List Mk} (h:MarksRow w o t v ms) (f:Kp M w o w' o') (ht:¬ M t) (h0:¬ M 0):MarksRow w' o' t v ms:=by
 obtain ⟨rs,g1,g2,g3⟩:=h
 exact ⟨rs,g1.fr f ht,g2,fun i r m hi hm=>by
  obtain ⟨a1,a2,a3,a4,a5,a6⟩:=g3 i r m hi hm
  exact ⟨a1,a2,a3,a4,a5.fr f h0 h0,a6.fr f h0⟩⟩
theorem NodesRow.slice {ns:List Nd} (h:NodesRow w o t v ns):∃ A c,v=.slice A ns.length c:=by
 obtain ⟨rs,h1,h2,_⟩:=h
 obtain ⟨A,c,e⟩:=h1.slice
 exact ⟨A,c,by rw [e,← h2,List.length_map]⟩
theorem UsersRow.slice {us:List (List Int)} (h:UsersRow w o t v us):∃ A c,v=.slice A us.length c:=by
 obtain ⟨rs,h1,h2,_⟩:=h
 obtain ⟨A,c,e⟩:=h1.slice
 exact ⟨A,c,by rw [e,← h2]⟩
theorem MarksRow.slice {ms:List Mk} (h:MarksRow w o t v ms):∃ A c,v=.slice A ms.length c:=by
 obtain ⟨rs,h1,h2,_⟩:=h
 obtain ⟨A,c,e⟩:=h1.slice
 exact ⟨A,c,by rw [e,← h2]⟩
theorem NodesRow.nil (w:World) (o:Own) (t:Nat):NodesRow w o t (.slice none 0 0) []:=⟨[],Row.nil _ _ _ _ _,rfl,fun _ h=>by simp at h⟩
theorem UsersRow.nil (w:World) (o:Own) (t:Nat):UsersRow w o t (.slice none 0 0) []:=⟨[],Row.nil _ _ _ _ _,rfl,fun _ _ _ h=>by simp at h,fun _ _ _ _ _ h=>by simp at h⟩
theorem MarksRow.nil (w:World) (o:Own) (t:Nat):MarksRow w o t (.slice none 0 0) []:=⟨[],Row.nil _ _ _ _ _,rfl,fun _ _ _ h=>by simp at h⟩
end
structure St where
 ns:List Nd
 ks:List Nd
 us:List (List Int)
 p:List Int
 t:List S115
 ex:ByteArray→Option Int
 tab:ByteArray→Option Int
 vs:Lit→Option Value
 L:List S117
 todo:List Int
 dirty:Bool
 ms:List Mk
 N:Nat
structure Cl where
 sg:Nat
 vn:Value
 vk:Value
 vu:Value
 eg:Nat
 tg:Nat
 fg:Nat
 mv:Nat
 vt:Value
 vm:Value
structure CoreAt (b:Nat) (w:World) (o:Own) (cb:Nat) (C:Cl) (S:St):Prop where
 blk:Blk w o (b+1) cb #[.pointer (some ⟨C.sg,0,none⟩),C.vn,C.vk,C.vu,.pointer (some ⟨C.eg,0,none⟩),.pointer (some ⟨C.tg,0,none⟩),.pointer (some ⟨C.fg,0,none⟩),.map (some C.mv),C.vt,.bool S.dirty,C.vm] 65
 sets:SetsAt (b+2) w o C.sg S.p S.t
 nodes:NodesRow w o (b+5) C.vn S.ns
 keys:NodesRow w o (b+6) C.vk S.ks
 users:UsersRow w o (b+7) C.vu S.us
 exact:TabAt (b+9) w o C.eg S.ex S.N
 table:TabAt (b+11) w o C.tg S.tab S.N
 forest:ForAt (b+13) w o C.fg S.L
 omv:o C.mv=b+18
 vars:GMap 9 SInt (.int .i64 0) w C.mv S.N S.vs
 todo:Row (Kd.int .i64) 3 w o (b+19) C.vt S.todo
 marks:MarksRow w o (b+20) C.vm S.ms
def CoreM (b:Nat):Nat→Prop:=fun x=>b < x∧x≤b+20
section
variable {M:Nat→Prop} {w w':World} {o o':Own} {b cb:Nat} {C:Cl} {S:St}
theorem CoreAt.fr (h:CoreAt b w o cb C S) (f:Kp M w o w' o') (hM:∀ x,CoreM b x→¬ M x) (h0:¬ M 0):CoreAt b w' o' cb C S:=by
 have q:∀ k,0 < k→k≤20→¬ M (b+k):=fun k h1 h2=>hM _ ⟨by omega,by omega⟩
 exact {
  blk:=h.blk.fr f (q 1 (by omega) (by omega))
  sets:=h.sets.fr f (fun x hx=>hM x (by unfold SetsM at hx;unfold CoreM;omega))
  nodes:=h.nodes.fr f (q 5 (by omega) (by omega)) h0
  keys:=h.keys.fr f (q 6 (by omega) (by omega)) h0
  users:=h.users.fr f (q 7 (by omega) (by omega)) (q 8 (by omega) (by omega))
  exact:=h.exact.fr f (fun x hx=>hM x (by unfold TabM at hx;unfold CoreM;omega))
  table:=h.table.fr f (fun x hx=>hM x (by unfold TabM at hx;unfold CoreM;omega))
  forest:=h.forest.fr f (fun x hx=>hM x (by unfold ForM at hx;unfold CoreM;omega))
  omv:=(f.own _ h.vars.lt).trans h.omv
  vars:=h.vars.at (f.block _ h.vars.lt (by rw [h.omv];exact q 18 (by omega) (by omega)))
  todo:=h.todo.fr f (q 19 (by omega) (by omega))
  marks:=h.marks.fr f (q 20 (by omega) (by omega)) h0 }
theorem CoreAt.onSets (h:CoreAt b w o cb C S) (f:Kp (SetsM (b+2)) w o w' o') {p:List Int} {t:List S115} (hs:SetsAt (b+2) w' o' C.sg p t):CoreAt b w' o' cb C { S with p:=p,t:=t }:={
  blk:=h.blk.fr f (by unfold SetsM;omega)
  sets:=hs
  nodes:=h.nodes.fr f (by unfold SetsM;omega) (by unfold SetsM;omega)
  keys:=h.keys.fr f (by unfold SetsM;omega) (by unfold SetsM;omega)
  users:=h.users.fr f (by unfold SetsM;omega) (by unfold SetsM;omega)
  exact:=h.exact.fr f (fun x hx=>by unfold TabM at hx;unfold SetsM;omega)
  table:=h.table.fr f (fun x hx=>by unfold TabM at hx;unfold SetsM;omega)
  forest:=h.forest.fr f (fun x hx=>by unfold ForM at hx;unfold SetsM;omega)
  omv:=(f.own _ h.vars.lt).trans h.omv
  vars:=h.vars.at (f.block _ h.vars.lt (by rw [h.omv];unfold SetsM;omega))
  todo:=h.todo.fr f (by unfold SetsM;omega)
  marks:=h.marks.fr f (by unfold SetsM;omega) (by unfold SetsM;omega) }
theorem CoreAt.onForest (h:CoreAt b w o cb C S) (f:Kp (ForM (b+13)) w o w' o') {L:List S117} (hs:ForAt (b+13) w' o' C.fg L):CoreAt b w' o' cb C { S with L:=L }:={
  blk:=h.blk.fr f (by unfold ForM;omega)
  sets:=h.sets.fr f (fun x hx=>by unfold SetsM at hx;unfold ForM;omega)
  nodes:=h.nodes.fr f (by unfold ForM;omega) (by unfold ForM;omega)
  keys:=h.keys.fr f (by unfold ForM;omega) (by unfold ForM;omega)
  users:=h.users.fr f (by unfold ForM;omega) (by unfold ForM;omega)
  exact:=h.exact.fr f (fun x hx=>by unfold TabM at hx;unfold ForM;omega)
  table:=h.table.fr f (fun x hx=>by unfold TabM at hx;unfold ForM;omega)
  forest:=hs
  omv:=(f.own _ h.vars.lt).trans h.omv
  vars:=h.vars.at (f.block _ h.vars.lt (by rw [h.omv];unfold ForM;omega))
  todo:=h.todo.fr f (by unfold ForM;omega)
  marks:=h.marks.fr f (by unfold ForM;omega) (by unfold ForM;omega) }
theorem CoreAt.onTable (h:CoreAt b w o cb C S) (f:Kp (TabM (b+11)) w o w' o') {T:ByteArray→Option Int} {N:Nat} (hN:S.N≤N) (hs:TabAt (b+11) w' o' C.tg T N):CoreAt b w' o' cb C { S with tab:=T,N:=N }:={
  blk:=h.blk.fr f (by unfold TabM;omega)
  sets:=h.sets.fr f (fun x hx=>by unfold SetsM at hx;unfold TabM;omega)
  nodes:=h.nodes.fr f (by unfold TabM;omega) (by unfold TabM;omega)
  keys:=h.keys.fr f (by unfold TabM;omega) (by unfold TabM;omega)
  users:=h.users.fr f (by unfold TabM;omega) (by unfold TabM;omega)
  exact:=(h.exact.fr f (fun x hx=>by unfold TabM at hx ⊢;omega)).mono hN
  table:=hs
  forest:=h.forest.fr f (fun x hx=>by unfold ForM at hx;unfold TabM;omega)
  omv:=(f.own _ h.vars.lt).trans h.omv
  vars:=(h.vars.at (f.block _ h.vars.lt (by rw [h.omv];unfold TabM;omega))).mono hN
  todo:=h.todo.fr f (by unfold TabM;omega)
  marks:=h.marks.fr f (by unfold TabM;omega) (by unfold TabM;omega) }
theorem CoreAt.onExact (h:CoreAt b w o cb C S) (f:Kp (TabM (b+9)) w o w' o') {T:ByteArray→Option Int} {N:Nat} (hN:S.N≤N) (hs:TabAt (b+9) w' o' C.eg T N):CoreAt b w' o' cb C { S with ex:=T,N:=N }:={
  blk:=h.blk.fr f (by unfold TabM;omega)
  sets:=h.sets.fr f (fun x hx=>by unfold SetsM at hx;unfold TabM;omega)
  nodes:=h.nodes.fr f (by unfold TabM;omega) (by unfold TabM;omega)
  keys:=h.keys.fr f (by unfold TabM;omega) (by unfold TabM;omega)
  users:=h.users.fr f (by unfold TabM;omega) (by unfold TabM;omega)
  exact:=hs
  table:=(h.table.fr f (fun x hx=>by unfold TabM at hx ⊢;omega)).mono hN
  forest:=h.forest.fr f (fun x hx=>by unfold ForM at hx;unfold TabM;omega)
  omv:=(f.own _ h.vars.lt).trans h.omv
  vars:=(h.vars.at (f.block _ h.vars.lt (by rw [h.omv];unfold TabM;omega))).mono hN
  todo:=h.todo.fr f (by unfold TabM;omega)
  marks:=h.marks.fr f (by unfold TabM;omega) (by unfold TabM;omega) }
theorem CoreAt.onVars (h:CoreAt b w o cb C S) (hg:w.grownBy w' (some C.mv)) {F:Lit→Option Value} {N:Nat} (hN:S.N≤N) (hs:GMap 9 SInt (.int .i64 0) w' C.mv N F):CoreAt b w' o cb C { S with vs:=F,N:=N }:=by
 have f:Kp (·=b+18) w o w' o:=(Kp.refl _ w o).grown hg (fun k e=>.inl (by rw [← Option.some.inj e];exact h.omv))
 exact {
  blk:=h.blk.fr f (by omega)
  sets:=h.sets.fr f (fun x hx=>by unfold SetsM at hx;omega)
  nodes:=h.nodes.fr f (by omega) (by omega)
  keys:=h.keys.fr f (by omega) (by omega)
  users:=h.users.fr f (by omega) (by omega)
  exact:=(h.exact.fr f (fun x hx=>by unfold TabM at hx;omega)).mono hN
  table:=(h.table.fr f (fun x hx=>by unfold TabM at hx;omega)).mono hN
  forest:=h.forest.fr f (fun x hx=>by unfold ForM at hx;omega)
  omv:=(f.own _ h.vars.lt).trans h.omv
  vars:=hs
  todo:=h.todo.fr f (by omega)
  marks:=h.marks.fr f (by omega) (by omega) }
theorem CoreAt.kp_cell (h:CoreAt b w o cb C S) {m:Nat} (f:Kp (·=m) w o w' o') (hm:m≠b+1) (i:Nat) (u:Value):Kp (fun x=>x=m∨x=b+1) w o (w'.setCell ⟨cb,i,none⟩ u) o' :=
 (f.mono (fun _ h=>.inl h)).setCell ⟨cb,i,none⟩ u (.inl (.inr (h.blk.fr f (by omega)).2))
theorem CoreAt.onNodes (h:CoreAt b w o cb C S) (f:Kp (·=b+5) w o w' o') {v:Value} {ns:List Nd} (hs:NodesRow w' o' (b+5) v ns):CoreAt b (w'.setCell ⟨cb,1,none⟩ v) o' cb { C with vn:=v } { S with ns:=ns }:=by
 have k:=h.kp_cell f (by omega) 1 v
 have kc:Kp (·=b+1) w' o' (w'.setCell ⟨cb,1,none⟩ v) o':=(Kp.refl _ w' o').setCell _ _ (.inl (h.blk.fr f (by omega)).2)
 exact {
  blk:=(h.blk.fr f (by omega)).set 1 v
  sets:=h.sets.fr k (fun x hx=>by unfold SetsM at hx;omega)
  nodes:=hs.fr kc (by omega) (by omega)
  keys:=h.keys.fr k (by omega) (by omega)
  users:=h.users.fr k (by omega) (by omega)
  exact:=h.exact.fr k (fun x hx=>by unfold TabM at hx;omega)
  table:=h.table.fr k (fun x hx=>by unfold TabM at hx;omega)
  forest:=h.forest.fr k (fun x hx=>by unfold ForM at hx;omega)
  omv:=(k.own _ h.vars.lt).trans h.omv
  vars:=h.vars.at (k.block _ h.vars.lt (by rw [h.omv];omega))
  todo:=h.todo.fr k (by omega)
  marks:=h.marks.fr k (by omega) (by omega) }
theorem CoreAt.onKeys (h:CoreAt b w o cb C S) (f:Kp (·=b+6) w o w' o') {v:Value} {ns:List Nd} (hs:NodesRow w' o' (b+6) v ns):CoreAt b (w'.setCell ⟨cb,2,none⟩ v) o' cb { C with vk:=v } { S with ks:=ns }:=by
 have k:=h.kp_cell f (by omega) 2 v
 have kc:Kp (·=b+1) w' o' (w'.setCell ⟨cb,2,none⟩ v) o':=(Kp.refl _ w' o').setCell _ _ (.inl (h.blk.fr f (by omega)).2)
 exact {
  blk:=(h.blk.fr f (by omega)).set 2 v
  sets:=h.sets.fr k (fun x hx=>by unfold SetsM at hx;omega)
  nodes:=h.nodes.fr k (by omega) (by omega)
  keys:=hs.fr kc (by omega) (by omega)
  users:=h.users.fr k (by omega) (by omega)
  exact:=h.exact.fr k (fun x hx=>by unfold TabM at hx;omega)
  table:=h.table.fr k (fun x hx=>by unfold TabM at hx;omega)
  forest:=h.forest.fr k (fun x hx=>by unfold ForM at hx;omega)
  omv:=(k.own _ h.vars.lt).trans h.omv
  vars:=h.vars.at (k.block _ h.vars.lt (by rw [h.omv];omega))
  todo:=h.todo.fr k (by omega)
  marks:=h.marks.fr k (by omega) (by omega) }
theorem CoreAt.onUsers (h:CoreAt b w o cb C S) (f:Kp (·=b+7) w o w' o') {v:Value} {us:List (List Int)} (hs:UsersRow w' o' (b+7) v us):CoreAt b (w'.setCell ⟨cb,3,none⟩ v) o' cb { C with vu:=v } { S with us:=us }:=by
 have k:=h.kp_cell f (by omega) 3 v
 have kc:Kp (·=b+1) w' o' (w'.setCell ⟨cb,3,none⟩ v) o':=(Kp.refl _ w' o').setCell _ _ (.inl (h.blk.fr f (by omega)).2)
 exact {
  blk:=(h.blk.fr f (by omega)).set 3 v
  sets:=h.sets.fr k (fun x hx=>by unfold SetsM at hx;omega)
  nodes:=h.nodes.fr k (by omega) (by omega)
  keys:=h.keys.fr k (by omega) (by omega)
  users:=hs.fr kc (by omega) (by omega)
  exact:=h.exact.fr k (fun x hx=>by unfold TabM at hx;omega)
  table:=h.table.fr k (fun x hx=>by unfold TabM at hx;omega)
  forest:=h.forest.fr k (fun x hx=>by unfold ForM at hx;omega)
  omv:=(k.own _ h.vars.lt).trans h.omv
  vars:=h.vars.at (k.block _ h.vars.lt (by rw [h.omv];omega))
  todo:=h.todo.fr k (by omega)
  marks:=h.marks.fr k (by omega) (by omega) }
theorem CoreAt.inUsers (h:CoreAt b w o cb C S) (f:Kp (fun x=>x=b+7∨x=b+8) w o w' o') {us:List (List Int)} (hs:UsersRow w' o' (b+7) C.vu us):CoreAt b w' o' cb C { S with us:=us }:={
  blk:=h.blk.fr f (by omega)
  sets:=h.sets.fr f (fun x hx=>by unfold SetsM at hx;omega)
  nodes:=h.nodes.fr f (by omega) (by omega)
  keys:=h.keys.fr f (by omega) (by omega)
  users:=hs
  exact:=h.exact.fr f (fun x hx=>by unfold TabM at hx;omega)
  table:=h.table.fr f (fun x hx=>by unfold TabM at hx;omega)
  forest:=h.forest.fr f (fun x hx=>by unfold ForM at hx;omega)
  omv:=(f.own _ h.vars.lt).trans h.omv
  vars:=h.vars.at (f.block _ h.vars.lt (by rw [h.omv];omega))
  todo:=h.todo.fr f (by omega)
  marks:=h.marks.fr f (by omega) (by omega) }
theorem CoreAt.inKeys (h:CoreAt b w o cb C S) (f:Kp (·=b+6) w o w' o') {ks:List Nd} (hs:NodesRow w' o' (b+6) C.vk ks):CoreAt b w' o' cb C { S with ks:=ks }:={
  blk:=h.blk.fr f (by omega)
  sets:=h.sets.fr f (fun x hx=>by unfold SetsM at hx;omega)
  nodes:=h.nodes.fr f (by omega) (by omega)
  keys:=hs
  users:=h.users.fr f (by omega) (by omega)
  exact:=h.exact.fr f (fun x hx=>by unfold TabM at hx;omega)
  table:=h.table.fr f (fun x hx=>by unfold TabM at hx;omega)
  forest:=h.forest.fr f (fun x hx=>by unfold ForM at hx;omega)
  omv:=(f.own _ h.vars.lt).trans h.omv
  vars:=h.vars.at (f.block _ h.vars.lt (by rw [h.omv];omega))
  todo:=h.todo.fr f (by omega)
  marks:=h.marks.fr f (by omega) (by omega) }
theorem CoreAt.onTodo (h:CoreAt b w o cb C S) (f:Kp (·=b+19) w o w' o') {v:Value} {l:List Int} (hs:Row (Kd.int .i64) 3 w' o' (b+19) v l):CoreAt b (w'.setCell ⟨cb,8,none⟩ v) o' cb { C with vt:=v } { S with todo:=l }:=by
 have k:=h.kp_cell f (by omega) 8 v
 have kc:Kp (·=b+1) w' o' (w'.setCell ⟨cb,8,none⟩ v) o':=(Kp.refl _ w' o').setCell _ _ (.inl (h.blk.fr f (by omega)).2)
 exact {
  blk:=(h.blk.fr f (by omega)).set 8 v
  sets:=h.sets.fr k (fun x hx=>by unfold SetsM at hx;omega)
  nodes:=h.nodes.fr k (by omega) (by omega)
  keys:=h.keys.fr k (by omega) (by omega)
  users:=h.users.fr k (by omega) (by omega)
  exact:=h.exact.fr k (fun x hx=>by unfold TabM at hx;omega)
  table:=h.table.fr k (fun x hx=>by unfold TabM at hx;omega)
  forest:=h.forest.fr k (fun x hx=>by unfold ForM at hx;omega)
  omv:=(k.own _ h.vars.lt).trans h.omv
  vars:=h.vars.at (k.block _ h.vars.lt (by rw [h.omv];omega))
  todo:=hs.fr kc (by omega)
  marks:=h.marks.fr k (by omega) (by omega) }
theorem CoreAt.onMarks (h:CoreAt b w o cb C S) (f:Kp (·=b+20) w o w' o') {v:Value} {l:List Mk} (hs:MarksRow w' o' (b+20) v l):CoreAt b (w'.setCell ⟨cb,10,none⟩ v) o' cb { C with vm:=v } { S with ms:=l }:=by
 have k:=h.kp_cell f (by omega) 10 v
 have kc:Kp (·=b+1) w' o' (w'.setCell ⟨cb,10,none⟩ v) o':=(Kp.refl _ w' o').setCell _ _ (.inl (h.blk.fr f (by omega)).2)
 exact {
  blk:=(h.blk.fr f (by omega)).set 10 v
  sets:=h.sets.fr k (fun x hx=>by unfold SetsM at hx;omega)
  nodes:=h.nodes.fr k (by omega) (by omega)
  keys:=h.keys.fr k (by omega) (by omega)
  users:=h.users.fr k (by omega) (by omega)
  exact:=h.exact.fr k (fun x hx=>by unfold TabM at hx;omega)
  table:=h.table.fr k (fun x hx=>by unfold TabM at hx;omega)
  forest:=h.forest.fr k (fun x hx=>by unfold ForM at hx;omega)
  omv:=(k.own _ h.vars.lt).trans h.omv
  vars:=h.vars.at (k.block _ h.vars.lt (by rw [h.omv];omega))
  todo:=h.todo.fr k (by omega)
  marks:=hs.fr kc (by omega) (by omega) }
theorem CoreAt.onDirty (h:CoreAt b w o cb C S) (d:Bool):CoreAt b (w.setCell ⟨cb,9,none⟩ (.bool d)) o cb C { S with dirty:=d }:=by
 have k:Kp (·=b+1) w o (w.setCell ⟨cb,9,none⟩ (.bool d)) o:=(Kp.refl _ w o).setCell _ _ (.inl h.blk.2)
 exact {
  blk:=h.blk.set 9 (.bool d)
  sets:=h.sets.fr k (fun x hx=>by unfold SetsM at hx;omega)
  nodes:=h.nodes.fr k (by omega) (by omega)
  keys:=h.keys.fr k (by omega) (by omega)
  users:=h.users.fr k (by omega) (by omega)
  exact:=h.exact.fr k (fun x hx=>by unfold TabM at hx;omega)
  table:=h.table.fr k (fun x hx=>by unfold TabM at hx;omega)
  forest:=h.forest.fr k (fun x hx=>by unfold ForM at hx;omega)
  omv:=(k.own _ h.vars.lt).trans h.omv
  vars:=h.vars.at (k.block _ h.vars.lt (by rw [h.omv];omega))
  todo:=h.todo.fr k (by omega)
  marks:=h.marks.fr k (by omega) (by omega) }
theorem CoreAt.newTable (h:CoreAt b w o cb C S) (f:Kp (TabM (b+11)) w o w' o') {T:ByteArray→Option Int} {tg:Nat} (hs:TabAt (b+11) w' o' tg T 0):CoreAt b (w'.setCell ⟨cb,5,none⟩ (.pointer (some ⟨tg,0,none⟩))) o' cb { C with tg:=tg } { S with tab:=T }:=by
 have hb:=h.blk.fr f (by unfold TabM;omega)
 have kc:Kp (·=b+1) w' o' (w'.setCell ⟨cb,5,none⟩ (.pointer (some ⟨tg,0,none⟩))) o':=(Kp.refl _ w' o').setCell _ _ (.inl hb.2)
 have k:Kp (fun x=>TabM (b+11) x∨x=b+1) w o (w'.setCell ⟨cb,5,none⟩ (.pointer (some ⟨tg,0,none⟩))) o':=(f.mono (fun _ h=>.inl h)).trans (kc.mono (fun _ h=>.inr h))
 exact {
  blk:=hb.set 5 _
  sets:=h.sets.fr k (fun x hx=>by unfold SetsM at hx;unfold TabM;omega)
  nodes:=h.nodes.fr k (by unfold TabM;omega) (by unfold TabM;omega)
  keys:=h.keys.fr k (by unfold TabM;omega) (by unfold TabM;omega)
  users:=h.users.fr k (by unfold TabM;omega) (by unfold TabM;omega)
  exact:=h.exact.fr k (fun x hx=>by unfold TabM at hx ⊢;omega)
  table:=(hs.fr kc (fun x hx=>by unfold TabM at hx;omega)).mono (Nat.zero_le _)
  forest:=h.forest.fr k (fun x hx=>by unfold ForM at hx;unfold TabM;omega)
  omv:=(k.own _ h.vars.lt).trans h.omv
  vars:=h.vars.at (k.block _ h.vars.lt (by rw [h.omv];unfold TabM;omega))
  todo:=h.todo.fr k (by unfold TabM;omega)
  marks:=h.marks.fr k (by unfold TabM;omega) (by unfold TabM;omega) }
end
def GraphAt (b:Nat) (w:World) (o:Own) (g:Nat) (S:St):Prop:=∃ cb C,Blk w o b g #[.pointer (some ⟨cb,0,none⟩)] 68∧CoreAt b w o cb C S
def GraphM (b:Nat):Nat→Prop:=fun x=>b≤x∧x≤b+20
theorem GraphAt.fr {M:Nat→Prop} {w w':World} {o o':Own} {b g:Nat} {S:St} (h:GraphAt b w o g S) (f:Kp M w o w' o') (hM:∀ x,GraphM b x→¬ M x) (h0:¬ M 0):GraphAt b w' o' g S:=by
 obtain ⟨cb,C,h1,h2⟩:=h
 exact ⟨cb,C,h1.fr f (hM b ⟨by omega,by omega⟩),h2.fr f (fun x hx=>hM x (by unfold CoreM at hx;unfold GraphM;omega)) h0⟩
end Go.Proofs.YtjckhhecnebmmaaGreatDoor.TU
end
section
namespace Go.Proofs.YtjckhhecnebmmaaGreatDoor.TU
open Go.RowKit Go.Proofs.YtjckhhecnebmmaaGreatDoorW.PrintWords Go.Proofs.YtjckhhecnebmmaaGreatDoorW.PrintLast Go.Proofs.YtjckhhecnebmmaaGreatDoorW.PrintMore Go.Proofs.YtjckhhecnebmmaaGreatDoor.QAll
attribute [local go_sem] max2_int min2_int max_two min_two max_three min_three max_four min_four
set_option linter.unusedVariables false
structure Fine (S:St):Prop where
 hp:S.p.length=S.ns.length
 hk:S.ks.length=S.ns.length
 hu:S.us.length=S.ns.length
 few:S.ns.length≤600
 ht:S.t.length≤900
 hL:S.L.length≤800
 well:Well S.p
 todo:S.todo.length≤100000
 ul:∀ u∈S.us,u.length≤600
 no:∀ n∈S.ns,n.Ok
 ko:∀ n∈S.ks,n.Ok
 tb:∀ k id,S.tab k=some id→0≤id∧id < S.ns.length
 N:S.N≤1152921504606846000
 ur:∀ u∈S.us,∀ x∈u,0≤x∧x < S.ns.length
structure Gl (B:Nat) (w:World) (o:Own):Prop where
 tab:Tab B w
 le:B≤w.heap.size
 own:∀ k,k < B→o k=0
theorem Gl.fr {B:Nat} {M:Nat→Prop} {w w':World} {o o':Own} (h:Gl B w o) (f:Fr M w o w' o') (h0:¬ M 0):Gl B w' o' :=
 ⟨h.tab.on (f.toBelow h.le (fun k hk=>by rw [h.own k hk];exact h0)),Nat.le_trans h.le f.size,fun k hk=>(f.own k (Nat.lt_of_lt_of_le hk h.le)).trans (h.own k hk)⟩
theorem Gl.on {B:Nat} {w w':World} {o:Own} (h:Gl B w o) (hb:Below w.heap.size w w'):Gl B w' (o.from_ w.heap.size 0):=h.fr (Fr.of_below (M:=fun _=>False) hb 0 (.inl rfl)) id
theorem Fine.pl {S:St} (h:Fine S):S.p.length≤1000:=by have:=h.hp;have:=h.few;omega
set_option maxHeartbeats 400000 in
theorem gmade_calls {w:World} {g cb:Nat} (h:w.cell? ⟨g,0,none⟩=some (.pointer (some ⟨cb,0,none⟩))):Calls Tryz.prog 18 #[.pointer (some ⟨g,0,none⟩)] w fun e w'=>e=.returned (.bool true)∧w=w':=by
 go_enter Tryz.func18,Tryz.ntmps18
 go_wp2
 go_ret
 exact ⟨rfl,rfl⟩
set_option maxHeartbeats 400000 in
theorem dirty_calls {b g:Nat} {w:World} {o:Own} {S:St} (H:GraphAt b w o g S):Calls Tryz.prog 10 #[.pointer (some ⟨g,0,none⟩)] w fun e w'=>e=.returned (.bool S.dirty)∧w=w':=by
 obtain ⟨cb,C,h1,h2⟩:=H
 have c0:w.cell? ⟨g,0,none⟩=some (.pointer (some ⟨cb,0,none⟩)):=(blk_cell h1.1 0).trans rfl
 have c9:w.cell? ⟨cb,9,none⟩=some (.bool S.dirty):=(blk_cell h2.blk.1 9).trans rfl
 clear h1 h2
 go_enter Tryz.func10,Tryz.ntmps10
 go_wp2_with fail
 refine (gmade_calls c0).mono ?_
 rintro e w' ⟨rfl,rfl⟩
 go_wp2
 go_ret
 exact ⟨rfl,rfl⟩
set_option maxHeartbeats 400000 in
theorem gfind_calls {b g:Nat} {w:World} {o:Own} {S:St} (H:GraphAt b w o g S) (hS:Fine S) (x:Int):Calls Tryz.prog 32 #[.pointer (some ⟨g,0,none⟩),.int .i64 x] w fun e w'=>e=.returned (.int .i64 (fnd S.p x))∧w=w':=by
 obtain ⟨cb,C,h1,h2⟩:=H
 have c0:w.cell? ⟨g,0,none⟩=some (.pointer (some ⟨cb,0,none⟩)):=(blk_cell h1.1 0).trans rfl
 have c1:w.cell? ⟨cb,0,none⟩=some (.pointer (some ⟨C.sg,0,none⟩)):=(blk_cell h2.blk.1 0).trans rfl
 have hf:=find_calls h2.sets.uf hS.pl hS.well x
 clear h1 h2 hS
 go_enter Tryz.func32,Tryz.ntmps32
 go_wp2_with fail
 refine (gmade_calls c0).mono ?_
 rintro e w' ⟨rfl,rfl⟩
 go_wp2_with fail
 refine hf.mono ?_
 rintro e w' ⟨rfl,rfl⟩
 go_wp2
 go_ret
 exact ⟨rfl,rfl⟩
set_option maxHeartbeats 400000 in
theorem gsame_calls {b g:Nat} {w:World} {o:Own} {S:St} (H:GraphAt b w o g S) (hS:Fine S) (x y:Int):Calls Tryz.prog 21 #[.pointer (some ⟨g,0,none⟩),.int .i64 x,.int .i64 y] w fun e w'=>e=.returned (.bool (inB S.p x && (fnd S.p x == fnd S.p y)))∧w=w':=by
 obtain ⟨cb,C,h1,h2⟩:=H
 have c0:w.cell? ⟨g,0,none⟩=some (.pointer (some ⟨cb,0,none⟩)):=(blk_cell h1.1 0).trans rfl
 have c1:w.cell? ⟨cb,0,none⟩=some (.pointer (some ⟨C.sg,0,none⟩)):=(blk_cell h2.blk.1 0).trans rfl
 have hf:=same_calls h2.sets.uf hS.pl hS.well x y
 generalize (inB S.p x && (fnd S.p x == fnd S.p y))=r at *
 clear h1 h2 hS
 go_enter Tryz.func21,Tryz.ntmps21
 go_wp2_with fail
 refine (gmade_calls c0).mono ?_
 rintro e w' ⟨rfl,rfl⟩
 go_wp2_with fail
 refine hf.mono ?_
 rintro e w' ⟨rfl,rfl⟩
 go_wp2
 go_ret
 exact ⟨rfl,rfl⟩
set_option maxHeartbeats 400000 in
theorem glinks_calls {b g:Nat} {w:World} {o:Own} {S:St} (H:GraphAt b w o g S) (hS:Fine S):Calls Tryz.prog 30 #[.pointer (some ⟨g,0,none⟩)] w (SomeRow w):=by
 obtain ⟨cb,C,h1,h2⟩:=H
 have c0:w.cell? ⟨g,0,none⟩=some (.pointer (some ⟨cb,0,none⟩)):=(blk_cell h1.1 0).trans rfl
 have c1:w.cell? ⟨cb,6,none⟩=some (.pointer (some ⟨C.fg,0,none⟩)):=(blk_cell h2.blk.1 6).trans rfl
 have hf:=forest_links h2.forest (by have:=hS.hL;omega)
 clear h1 h2 hS
 go_enter Tryz.func30,Tryz.ntmps30
 go_wp2_with fail
 refine (gmade_calls c0).mono ?_
 rintro e w' ⟨rfl,rfl⟩
 go_wp2_with fail
 refine hf.mono ?_
 rintro e w1 ⟨A1,n1,c1,rfl,hb⟩
 have HB:=Lib.hid hb
 clear hb
 go_wp2
 go_ret
 exact ⟨_,_,_,rfl,HB.out⟩
def joinS (S:St) (x y:Int):St:={ S with p:=S.p.set (mx (fnd S.p x) (fnd S.p y)).toNat (mn (fnd S.p x) (fnd S.p y)),t:=S.t++[⟨false,mx (fnd S.p x) (fnd S.p y)⟩],todo:=S.todo++[mn (fnd S.p x) (fnd S.p y)] }
def CorePost (b cb:Nat) (w:World) (o:Own) (v:Value) (S':St) (n:Nat) (e:Ending) (w':World):Prop:=∃ o' C' L',e=.returned v∧CoreAt b w' o' cb C' { S' with L:=L' }∧L'.length≤n∧Fr (CoreM b) w o w' o'
theorem setsM_core {b x:Nat} (h:SetsM (b+2) x):CoreM b x:=by unfold SetsM at h;unfold CoreM;omega
theorem forM_core {b x:Nat} (h:ForM (b+13) x):CoreM b x:=by unfold ForM at h;unfold CoreM;omega
theorem tab9_core {b x:Nat} (h:TabM (b+9) x):CoreM b x:=by unfold TabM at h;unfold CoreM;omega
theorem tab11_core {b x:Nat} (h:TabM (b+11) x):CoreM b x:=by unfold TabM at h;unfold CoreM;omega
set_option maxHeartbeats 1600000 in
set_option maxRecDepth 20000 in
theorem join_calls {b cb:Nat} {w:World} {o:Own} {C:Cl} {S:St} (H:CoreAt b w o cb C S) (hS:Fine S) (x y z:Int) (hx:inB S.p x=true) (hy:inB S.p y=true) (hne:fnd S.p x≠fnd S.p y) :
  Calls Tryz.prog 38 #[.pointer (some ⟨cb,0,none⟩),.int .i64 x,.int .i64 y,.int .i64 z] w (CorePost b cb w o (.tuple #[]) (joinS S x y) (S.L.length+1)):=by
 have hpl:=hS.pl
 have hfx:=fnd_in hS.well hx
 have hfy:=fnd_in hS.well hy
 have hx':0≤x∧x < S.p.length:=by simpa [inB]using hx
 have hy':0≤y∧y < S.p.length:=by simpa [inB]using hy
 obtain ⟨sg,vn,vk,vu,eg,tg,fg,mv,vt,vm⟩:=C
 have c0:w.cell? ⟨cb,0,none⟩=some (.pointer (some ⟨sg,0,none⟩)):=(blk_cell H.blk.1 0).trans rfl
 have hj:=sets_join H.sets hpl (by have:=hS.ht;omega) hS.well x y hfx.1 hfy.1 hne
 have HH:=Lib.hid H
 have HS:=Lib.hid hS
 have HX:=Lib.hid hx'
 have HY:=Lib.hid hy'
 have HPL:=Lib.hid hpl
 clear H hS hx hy hne hfx hfy hx' hy' hpl
 go_enter Tryz.func38,Tryz.ntmps38
 go_wp2_with fail
 refine hj.mono ?_
 rintro e w1 ⟨rfl,o1,h1,f1⟩
 have H1:=Lib.hid (HH.out.onSets f1.kp h1)
 have F1:=Lib.hid f1
 have d6:w1.cell? ⟨cb,6,none⟩=some (.pointer (some ⟨fg,0,none⟩)):=(blk_cell H1.out.blk.1 6).trans rfl
 clear h1 f1 hj
 go_wp2_with fail
 refine (forest_link (b:=b+13) (by omega) H1.out.forest (by have:=HS.out.hL;show S.L.length≤900;omega) x y z (by have:=HX.out;have:=HPL.out;unfold I64;omega) (by have:=HY.out;have:=HPL.out;unfold I64;omega) HX.out.1 HY.out.1).mono ?_
 rintro e w2 ⟨o2,L2,r2,rfl,h2,hl2,f2⟩
 have H2:=Lib.hid (H1.out.onForest f2.kp h2)
 have F2:=Lib.hid f2
 have HL2:=Lib.hid hl2
 obtain ⟨A8,k8,hv8⟩:=H2.out.todo.slice
 simp only at hv8
 subst hv8
 have d8:w2.cell? ⟨cb,8,none⟩=some (.slice A8 S.todo.length k8):=(blk_cell H2.out.blk.1 8).trans rfl
 have fz8:=blk_frozen H2.out.blk.1 8
 clear h2 f2 hl2
 have HTD:=Lib.hid (show Row (Kd.int .i64) 3 w2 o2 (b+19) (.slice A8 S.todo.length k8) S.todo from H2.out.todo)
 go_wp2_with ((with_reducible refine gate_builtin (b:=.append) (xs:=#[.tmp 32,.tmp 34]) rfl ?_);at_builtin;refine row_append (Kd.int .i64) (Fr.start (·=b+19) w2 o2 0 (.inl rfl)) (b+19) rfl rfl (.tmp 32) (.tmp 34) 26 3 (.int .i64 0) 8 rfl Tryz.underlying26 inf3 rfl (by decide) (by omega) (.slice A8 S.todo.length k8) S.todo (mn (fnd S.p x) (fnd S.p y)) [.int .i64 (mn (fnd S.p x) (fnd S.p y))] rfl rfl rfl (HTD.out.renew 0) (by have:=HS.out.todo;omega) ?_;intro A9 c9 w3 h3 f3 k3;have H3:=Lib.hid (H2.out.onTodo (((Kp.refl (·=b+19) w2 o2).renew 0).trans k3) h3);have F3:=Lib.hid f3;have K3:=Lib.hid k3;have e8:w3.cell? ⟨cb,8,none⟩=some (.slice A8 S.todo.length k8):=(blk_cell (H2.out.blk.fr (((Kp.refl (·=b+19) w2 o2).renew 0).trans k3) (by omega)).1 8).trans rfl;have fz9:=blk_frozen (H2.out.blk.fr (((Kp.refl (·=b+19) w2 o2).renew 0).trans k3) (by omega)).1 8;clear h3 f3 k3)
 go_end0
 refine ⟨_,_,L2,rfl,H3.out,HL2.out,?_⟩
 have g1:=(F1.out.mono (fun _ h=>setsM_core h)).trans (F2.out.mono (fun _ h=>forM_core (b:=b) h))
 exact (g1.trans (F3.out.mono (M':=CoreM b) (fun t h=>by subst h;unfold CoreM;omega))).setCell ⟨cb,8,none⟩ _ (.inl (by have:=H3.out.blk.2;rw [this];unfold CoreM;omega))
def unionS (S:St) (x y z:Int):St × Int × Bool :=
 if z=-1 then (S,1,false)else if ¬ (inB S.p x=true∧inB S.p y=true)then (S,2,false)
 else if (S.ns.getD x.toNat ⟨0,0,0,⟨#[]⟩,[]⟩).width≠(S.ns.getD y.toNat ⟨0,0,0,⟨#[]⟩,[]⟩).width then (S,3,false)
 else if fnd S.p x=fnd S.p y then (S,0,false)else ({ joinS S x y with dirty:=true },0,true)
def GraphPost (b g:Nat) (w:World) (o:Own) (v:Value) (S':St) (n:Nat) (e:Ending) (w':World):Prop:=∃ o' L',e=.returned v∧GraphAt b w' o' g { S' with L:=L' }∧L'.length≤n∧Fr (GraphM b) w o w' o'
theorem coreM_graph {b x:Nat} (h:CoreM b x):GraphM b x:=by unfold CoreM at h;unfold GraphM;omega
theorem NodesRow.at {w:World} {o:Own} {t n c:Nat} {A:Option Addr} {ns:List Nd} (h:NodesRow w o t (.slice A n c) ns) (i:Int) (h0:0≤i) (h1:i < ns.length) :
  ∃ bl va nd,A=some ⟨bl,0,none⟩∧ns[i.toNat]?=some nd∧ns.getD i.toNat ⟨0,0,0,⟨#[]⟩,[]⟩=nd∧o bl=t∧w.cell? ⟨bl,i.toNat * 5,none⟩=some (.int .i64 nd.op)∧w.cell? ⟨bl,i.toNat * 5+1,none⟩=some (.int .i64 nd.width)∧w.cell? ⟨bl,i.toNat * 5+2,none⟩=some (.int .u64 nd.val)∧w.cell? ⟨bl,i.toNat * 5+3,none⟩=some (.string nd.name)∧w.cell? ⟨bl,i.toNat * 5+4,none⟩=some va∧Imm w o va nd.args∧(∀ j,w.frozen? ⟨bl,i.toNat * 5+j,none⟩=false):=by
 obtain ⟨rs,h2,h3,h4⟩:=h
 subst h3
 rw [List.length_map]at h1
 have hil:i.toNat < rs.length:=by omega
 obtain ⟨bl,cap,he,_,_,_⟩:=Kd.R_form h2 (by omega)
 injection he with he1 he2 he3
 subst he1
 subst he2
 obtain ⟨cs,hcl,hM,hcc,hcf⟩:=Kd.R_elem h2 ⟨⟨0,0,0,⟨#[]⟩,[]⟩,⟨none,0,0⟩⟩ i h0 (by omega)
 have hg:rs.getD i.toNat ⟨⟨0,0,0,⟨#[]⟩,[]⟩,⟨none,0,0⟩⟩=rs[i.toNat]:=by rw [List.getD_eq_getElem?_getD,List.getElem?_eq_getElem hil];rfl
 rw [hg]at hM
 obtain rfl:cs=_:=hM
 refine ⟨bl,rs[i.toNat].va.v,rs[i.toNat].nd,rfl,by simp [hil],by simp [hil],h2.own bl rfl,hcc 0 _ rfl,hcc 1 _ rfl,hcc 2 _ rfl,hcc 3 _ rfl,hcc 4 _ rfl,h4 _ (List.getElem_mem hil),hcf⟩
end Go.Proofs.YtjckhhecnebmmaaGreatDoor.TU
end

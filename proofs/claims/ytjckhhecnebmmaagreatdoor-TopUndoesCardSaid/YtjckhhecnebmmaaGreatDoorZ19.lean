/- Steps towards the law TopUndoes; words printed by the kit, and printed texts, are cut to what is used, and spaces are left out. No condition. -/
import Derived.Test.YtjckhhecnebmmaaGreatDoorZ18
import Derived.Deep.RegionLaw
set_option linter.unusedVariables false
set_option linter.unusedSimpArgs false
section
namespace Go.Proofs.YtjckhhecnebmmaaGreatDoor.TU
open Go.RowKit Go.Proofs.YtjckhhecnebmmaaGreatDoorW.PrintWords Go.Proofs.YtjckhhecnebmmaaGreatDoorW.PrintLast Go.Proofs.YtjckhhecnebmmaaGreatDoorW.PrintMore Go.Proofs.YtjckhhecnebmmaaGreatDoor.QAll
attribute [local go_sem] max2_int min2_int max_two min_two max_three min_three max_four min_four
set_option linter.unusedVariables false
def Box (w:World) (o:Own) (bx:Nat) (n:Nd):Prop:=∃ A c,Blk w o 0 bx (n.cells (.slice A n.args.length c)) 56∧Imm w o (.slice A n.args.length c) n.args
theorem Box.fr {M:Nat→Prop} {w w':World} {o o':Own} {bx:Nat} {n:Nd} (h:Box w o bx n) (f:Kp M w o w' o') (h0:¬ M 0):Box w' o' bx n:=by
 obtain ⟨A,c,h1,h2⟩:=h
 exact ⟨A,c,h1.fr f h0,h2.fr f h0⟩
def NBox (w:World) (o:Own) (tg nb:Nat) (n:Nd) (A:Option Addr) (c:Nat):Prop:=Blk w o 0 nb (n.cells (.slice A n.args.length c)) 56∧Row (Kd.int .i64) 3 w o tg (.slice A n.args.length c) n.args
structure AS (B b g cb nb tg:Nat) (w:World) (o:Own) (n:Nd) (A:Option Addr) (c:Nat) (wx:World) (o1:Own) (C:Cl) (T:St):Prop where
 gr:Blk wx o1 b g #[.pointer (some ⟨cb,0,none⟩)] 68
 core:CoreAt b wx o1 cb C T
 fr:Fr (GraphM b) w o wx o1
 gl:Gl B wx o1
 nb:NBox wx o1 tg nb n A c
section
variable {B b g cb nb tg:Nat} {w wx w2:World} {o o1 o2:Own} {n:Nd} {A:Option Addr} {c:Nat} {C C2:Cl} {T T2:St}
theorem AS.next (h:AS B b g cb nb tg w o n A c wx o1 C T) (htg:¬ GraphM b tg) (hb0:0 < b) (hc:CoreAt b w2 o2 cb C2 T2) (f:Fr (CoreM b) wx o1 w2 o2):AS B b g cb nb tg w o n A c w2 o2 C2 T2 :=
 ⟨h.gr.fr f.kp (by unfold CoreM;omega),hc,h.fr.trans (coreM_fr f),h.gl.fr f (by unfold CoreM;omega),h.nb.1.fr f.kp (by unfold CoreM;omega),h.nb.2.fr f.kp (fun h=>htg (coreM_graph h))⟩
theorem AS.below (h:AS B b g cb nb tg w o n A c wx o1 C T) (htg:¬ GraphM b tg) (hb0:0 < b) (hb:Below wx.heap.size wx w2):AS B b g cb nb tg w o n A c w2 (o1.from_ wx.heap.size 0) C T:=h.next htg hb0 (h.core.below hb) (Fr.of_below hb 0 (.inl rfl))
theorem AS.held (h:AS B b g cb nb tg w o n A c wx o1 C T):Held wx (.slice A n.args.length c) n.args:=by
 obtain ⟨A',c',e,h1,h2⟩:=Kd.R_reads h.nb.2
 exact ⟨A',c',e,h1,h2⟩
end
def AddPost (B b g:Nat) (w:World) (o:Own) (id err:Int) (S':St) (k:Nat) (e:Ending) (w':World):Prop:=∃ o' L',e=.returned (.tuple #[.int .i64 id,.int .i64 err])∧GraphAt b w' o' g (withL S' L')∧L'.length≤k∧Fr (GraphM b) w o w' o'
theorem as_start {B b g cb tg:Nat} {w:World} {o:Own} {C:Cl} {S:St} (G:Gl B w o) (h1:Blk w o b g #[.pointer (some ⟨cb,0,none⟩)] 68) (h2:CoreAt b w o cb C S) (n:Nd) (A:Option Addr) (c:Nat) (hr:Row (Kd.int .i64) 3 w o tg (.slice A n.args.length c) n.args) :
  AS B b g cb w.heap.size tg w o n A c (w.alloc (.cells (n.cells (.slice A n.args.length c)) 56)) (o.from_ w.heap.size 0) C S:=by
 have hb:=below_alloc (Below.refl w.heap.size w) (.cells (n.cells (.slice A n.args.length c)) 56)
 have kp:Kp (fun _=>False) w o (w.alloc (.cells (n.cells (.slice A n.args.length c)) 56)) (o.from_ w.heap.size 0):=((Kp.refl _ w o).renew 0).alloc _
 exact ⟨h1.fr kp id,h2.below hb,Fr.of_below hb 0 (.inl rfl),G.on hb,⟨blk_new _ _,Own.from_ge (Nat.le_refl _)⟩,hr.fr kp id⟩
set_option maxHeartbeats 3200000 in
set_option maxRecDepth 100000 in
theorem add_flaw {B b g tg:Nat} {w:World} {o:Own} {S:St} (G:Gl B w o) (H:GraphAt b w o g S) (hS:Fine S) (hb0:0 < b) (htg:¬ GraphM b tg) (n:Nd) (hn:n.Ok) (A:Option Addr) (c:Nat) (hr:Row (Kd.int .i64) 3 w o tg (.slice A n.args.length c) n.args) (hf:flawF S n≠0) :
  Calls Tryz.prog 54 #[.pointer (some ⟨g,0,none⟩),.agg (n.cells (.slice A n.args.length c))] w (AddPost B b g w o 0 (flawF S n) S S.L.length):=by
 obtain ⟨cb,C,h1,h2⟩:=H
 have hAS:=as_start G h1 h2 n A c hr
 have c0:(w.alloc (.cells (n.cells (.slice A n.args.length c)) 56)).cell? ⟨g,0,none⟩=some (.pointer (some ⟨cb,0,none⟩)):=(blk_cell hAS.gr.1 0).trans rfl
 have hfl:=flaw_calls hAS.core hS n hn _ hAS.held
 have hf1:(flawF S n != 0)=true:=by simpa using hf
 have HAS:=Lib.hid hAS
 clear hAS h1 h2 hr hf G hS hn
 simp only [Nd.cells]at hfl c0 HAS ⊢
 generalize flawF S n=r at *
 go_enter Tryz.func54,Tryz.ntmps54
 go_wp2_with fail
 refine (gmade_calls c0).mono ?_
 rintro e w' ⟨rfl,rfl⟩
 go_wp2_with fail
 refine hfl.mono ?_
 rintro e w2 ⟨rfl,hb2⟩
 have HB2:=Lib.hid hb2
 clear hb2 hfl
 go_wp2
 go_ret2
 have h:=HAS.out.below htg hb0 HB2.out
 exact ⟨_,S.L,rfl,⟨cb,C,h.gr,h.core⟩,Nat.le_refl _,h.fr⟩
set_option maxHeartbeats 3200000 in
set_option maxRecDepth 100000 in
theorem add_hit {B b g tg:Nat} {w:World} {o:Own} {S:St} (G:Gl B w o) (H:GraphAt b w o g S) (hS:Fine S) (hb0:0 < b) (htg:¬ GraphM b tg) (n:Nd) (hn:n.Ok) (A:Option Addr) (c:Nat) (hr:Row (Kd.int .i64) 3 w o tg (.slice A n.args.length c) n.args) (hf:flawF S n=0) (id:Int) (hid:S.ex (keyStr n)=some id) :
  Calls Tryz.prog 54 #[.pointer (some ⟨g,0,none⟩),.agg (n.cells (.slice A n.args.length c))] w (AddPost B b g w o id 0 S S.L.length):=by
 obtain ⟨cb,C,h1,h2⟩:=H
 have hAS:=as_start G h1 h2 n A c hr
 have c0:(w.alloc (.cells (n.cells (.slice A n.args.length c)) 56)).cell? ⟨g,0,none⟩=some (.pointer (some ⟨cb,0,none⟩)):=(blk_cell hAS.gr.1 0).trans rfl
 have hfl:=flaw_calls hAS.core hS n hn _ hAS.held
 rw [hf]at hfl
 have HAS:=Lib.hid hAS
 have HN:=Lib.hid hn
 have HID:=Lib.hid hid
 clear hAS h1 h2 hr hf G hS hn hid
 simp only [Nd.cells]at hfl c0 HAS ⊢
 go_enter Tryz.func54,Tryz.ntmps54
 go_wp2_with fail
 refine (gmade_calls c0).mono ?_
 rintro e w' ⟨rfl,rfl⟩
 go_wp2_with fail
 refine hfl.mono ?_
 rintro e w2 ⟨rfl,hb2⟩
 have hA2:=HAS.out.below htg hb0 hb2
 have hget:=fun wr (hb:Below w2.heap.size w2 wr)=>get_calls (B:=B) ((hA2.core.below hb).exact) n _ A c rfl (hA2.held.below hb |> fun h=>by obtain ⟨A',c',e,_,h⟩:=h;injection e with e1 e2 e3;subst e1;exact h) HN.out (hA2.gl.on hb).tab (hA2.gl.on hb).le
 rw [HID.out]at hget
 simp only [Option.getD_some,Option.isSome_some]at hget
 have g4:=hA2.core.at4
 have x0:w2.cell? ⟨w.heap.size,0,none⟩=some (.int .i64 n.op):=(blk_cell hA2.nb.1.1 0).trans rfl
 have x1:w2.cell? ⟨w.heap.size,1,none⟩=some (.int .i64 n.width):=(blk_cell hA2.nb.1.1 1).trans rfl
 have x2:w2.cell? ⟨w.heap.size,2,none⟩=some (.int .u64 n.val):=(blk_cell hA2.nb.1.1 2).trans rfl
 have x3:w2.cell? ⟨w.heap.size,3,none⟩=some (.string n.name):=(blk_cell hA2.nb.1.1 3).trans rfl
 have x4:w2.cell? ⟨w.heap.size,4,none⟩=some (.slice A n.args.length c):=(blk_cell hA2.nb.1.1 4).trans rfl
 have L1:=Lib.hid (fun wr (hb:Below w2.heap.size w2 wr)=>show wr.cell? ⟨cb,4,none⟩=some (.pointer (some ⟨C.eg,0,none⟩))∧wr.cell? ⟨w.heap.size,0,none⟩=some (.int .i64 n.op)∧wr.cell? ⟨w.heap.size,1,none⟩=some (.int .i64 n.width)∧wr.cell? ⟨w.heap.size,2,none⟩=some (.int .u64 n.val)∧wr.cell? ⟨w.heap.size,3,none⟩=some (.string n.name)∧wr.cell? ⟨w.heap.size,4,none⟩=some (.slice A n.args.length c)from ⟨pw_cell_below hb g4,pw_cell_below hb x0,pw_cell_below hb x1,pw_cell_below hb x2,pw_cell_below hb x3,pw_cell_below hb x4⟩)
 have HGET:=Lib.hid hget
 have HA2:=Lib.hid hA2
 obtain ⟨q0,q1,q2,q3,q4,q5⟩:=L1.out w2.drew (Below.refl _ _).drew
 clear hget hA2 x0 x1 x2 x3 x4 g4 hb2 hfl
 simp only [Nd.cells]at HGET
 go_upto_region 7 with fail
 go_region_held3 (fun wr=>wr.cell? ⟨cb,4,none⟩=some (.pointer (some ⟨C.eg,0,none⟩))∧wr.cell? ⟨w.heap.size,0,none⟩=some (.int .i64 n.op)∧wr.cell? ⟨w.heap.size,1,none⟩=some (.int .i64 n.width)∧wr.cell? ⟨w.heap.size,2,none⟩=some (.int .u64 n.val)∧wr.cell? ⟨w.heap.size,3,none⟩=some (.string n.name)∧wr.cell? ⟨w.heap.size,4,none⟩=some (.slice A n.args.length c))
  ((refine L1.out _ ?_;first | exact (Below.refl _ _).drew | exact (Below.refl _ _).drew.trans HB3.out))
  ((go_at_call 63;refine (HGET.out _ ?_).mono ?_;(exact (Below.refl _ _).drew);rintro e w3 ⟨rfl,hb3⟩;have HB3:=Lib.hid hb3;clear hb3))
 go_wp2
 go_ret2
 have h:=HA2.out.below htg hb0 ((Below.refl _ _).drew.trans HB3.out)
 exact ⟨_,S.L,rfl,⟨cb,C,h.gr,h.core⟩,Nat.le_refl _,h.fr⟩
end Go.Proofs.YtjckhhecnebmmaaGreatDoor.TU
end
section
namespace Go.Proofs.YtjckhhecnebmmaaGreatDoor.TU
open Go.RowKit Go.Proofs.YtjckhhecnebmmaaGreatDoorW.PrintWords Go.Proofs.YtjckhhecnebmmaaGreatDoorW.PrintLast Go.Proofs.YtjckhhecnebmmaaGreatDoorW.PrintMore Go.Proofs.YtjckhhecnebmmaaGreatDoor.QAll
attribute [local go_sem] max2_int min2_int max_two min_two max_three min_three max_four min_four
set_option linter.unusedVariables false
theorem well_snoc {p:List Int} (h:Well p):Well (p++[(p.length:Int)]):=by
 intro i h0 h1
 rw [List.length_append,List.length_singleton]at h1
 by_cases hi:i < p.length
 ·have e:rd (p++[(p.length:Int)]) i=rd p i:=by
   unfold rd
   rw [List.getD_eq_getElem?_getD,List.getD_eq_getElem?_getD,List.getElem?_append_left (by omega)]
  rw [e]
  exact h i h0 hi
 ·have hi:i=p.length:=by omega
  have e:rd (p++[(p.length:Int)]) i=i:=by
   unfold rd
   rw [hi,Int.toNat_natCast,List.getD_eq_getElem?_getD,List.getElem?_append_right (Nat.le_refl _),Nat.sub_self]
   rfl
  rw [e]
  omega
def useAdd (us:List (List Int)) (id:Int) (a:Int):List (List Int):=if (us.getD a.toNat []).length=0∨(us.getD a.toNat []).getLastD 0≠id then us.set a.toNat (us.getD a.toNat []++[id])else us
def useAll (us:List (List Int)) (id:Int) (args:List Int):List (List Int):=args.foldl (fun us a=>useAdd us id a) us
def newId (S:St):Int:=S.p.length
def newP (S:St):List Int:=S.p++[(S.p.length:Int)]
def newKey (S:St) (n:Nd):Nd:=canonN (newP S) n
open Classical in
noncomputable def newVs (S:St) (n:Nd):Lit→Option Value:=if n.op=1 then updF S.vs (lits_ n.name) (some (.int .i64 n.width))else S.vs
noncomputable def grown (S:St) (n:Nd):St:={ S with ns:=S.ns++[n],ks:=S.ks++[newKey S n],us:=useAll (S.us++[[]]) (newId S) n.args,p:=newP S,t:=S.t++[⟨true,newId S⟩],ex:=putT S.ex (keyStr n) (newId S),vs:=newVs S n,N:=S.N+3 }
noncomputable def addNew (S:St) (n:Nd):St:=match S.tab (keyStr (newKey S n))with
 | some y=>{ grown S n with p:=(newP S).set (mx (fnd (newP S) y) (fnd (newP S) (newId S))).toNat (mn (fnd (newP S) y) (fnd (newP S) (newId S))),t:=S.t++[⟨true,newId S⟩]++[⟨false,mx (fnd (newP S) y) (fnd (newP S) (newId S))⟩] }
 | none=>{ grown S n with tab:=putT S.tab (keyStr (newKey S n)) (newId S) }
theorem as_key {B b g cb nb tg:Nat} {w wx w2:World} {o o1:Own} {n:Nd} {A:Option Addr} {c:Nat} {C:Cl} {T:St} (h:AS B b g cb nb tg w o n A c wx o1 C T) (htg:¬ GraphM b tg) (hb0:0 < b) {ob kb m c2:Nat} {A2:Option Addr} {key:Nd} (hob:Box wx o1 ob n) (hm:m=key.args.length) (hb:Below wx.heap.size wx w2) (hk:wx.heap.size≤kb)
  (hbx:w2.heap[kb]?=some (.cells (key.cells (.slice A2 m c2)) 56 (0,0))) (hf:Fresh wx w2 (.slice A2 m c2) key.args):∃ o2,AS B b g cb nb tg w o n A c w2 o2 C T∧Box w2 o2 ob n∧Box w2 o2 kb key:=by
 subst hm
 exact ⟨o1.from_ wx.heap.size 0,h.below htg hb0 hb,hob.fr (((Kp.refl (fun _=>False) wx o1).renew 0).below hb) (fun h=>h),A2,c2,⟨hbx,Own.from_ge hk⟩,hf.imm (fun k h=>Own.from_ge h)⟩
end Go.Proofs.YtjckhhecnebmmaaGreatDoor.TU
end
section
namespace Go.Proofs.YtjckhhecnebmmaaGreatDoor.TU
open Go.RowKit Go.Proofs.YtjckhhecnebmmaaGreatDoorW.PrintWords Go.Proofs.YtjckhhecnebmmaaGreatDoorW.PrintLast Go.Proofs.YtjckhhecnebmmaaGreatDoorW.PrintMore Go.Proofs.YtjckhhecnebmmaaGreatDoor.QAll
attribute [local go_sem] max2_int min2_int max_two min_two max_three min_three max_four min_four
set_option linter.unusedVariables false
def tl:Code→Code
 | .seq _ y=>y
 | x=>x
structure AddEnv (B b g tg:Nat) (w:World) (o:Own) (S:St) (n:Nd):Prop where
 hb0:0 < b
 htg:¬ GraphM b tg
 hn:n.Ok
 hS:Fine S
 hin:∀ a∈n.args,0≤a∧a < S.ns.length
 hid:S.ex (keyStr n)=none
 few:S.ns.length≤500
 htl:S.t.length≤890
 hLl:S.L.length≤790
 hN:S.N≤1152921504606800000
def st1 (S:St):St:={ S with p:=S.p++[(S.p.length:Int)],t:=S.t++[⟨true,S.p.length⟩] }
def st2 (S:St) (n:Nd):St:={ st1 S with ns:=S.ns++[n] }
def st3 (S:St) (n:Nd):St:={ st2 S n with ks:=S.ks++[newKey S n] }
def st4 (S:St) (n:Nd):St:={ st3 S n with us:=S.us++[[]] }
def st5 (S:St) (n:Nd):St:={ st4 S n with us:=useAll (S.us++[[]]) (newId S) n.args }
def st6 (S:St) (n:Nd):St:={ st5 S n with ex:=putT S.ex (keyStr n) (newId S),N:=S.N+1 }
noncomputable def st7 (S:St) (n:Nd):St:={ st6 S n with vs:=newVs S n,N:=S.N+2 }
set_option maxRecDepth 100000 in
def Seg (code:Code) (B b g tg:Nat) (w:World) (o:Own) (S:St) (n:Nd) (A:Option Addr) (c:Nat) (T:St):Prop :=
 ∀ (cb:Nat) (C:Cl) (wx:World) (o1:Own) (ob kb:Nat) (s1 s2 s4 s5 s7 s8 s9 s13 s14 s15 s16 s17 s18 s19 s20 s21 s22 s23 s24 s25 s26 s27 s28 s29 s30 s31 s32 s33 s34 s35 s36 s37 s38 s39 s40 s41 s42 s43 s44 s45 s46 s47 s48 s49 s50 s51 s52 s53 s54 s55 s56 s57 s58 s59 s60 s61 s62 s63 s64 s65 s66 s67 s68 s69 s70 s71 s72 s73 s74 s75 s76 s77 s78 s79 s80 s81 s82 s83 s84 s85 s86 s87 s88 s89 s90 s91 s92 s93 s94 s95 s96 s97 s98 s99 s100 s101 s102 s103 s104 s105 s106 s107 s108 s109 s110 s111 s112 s113 s114 s115 s116 s117 s118 s119 s120 s121 s122 s123 s124 s125 s126 s127 s128 s129 s130 s131 s132 s133 s134 s135 s136 s137 s138 s139 s140 s141 s142 s143 s144 s145 s146 s147 s148 s149 s150 s151 s152 s153 s154 s155 s156 s157 s158 s159 s160 s161 s162 s163 s164 s165 s166 s167 s168 s169 s170 s171 s172 s173 s174 s175 s176 s177 s178 s179 s180 s181 s182 s183 s184:Value),AS B b g cb w.heap.size tg w o n A c wx o1 C T→Box wx o1 ob n→Box wx o1 kb (newKey S n) →
  Code.wp Tryz.prog code (bodyPost Tryz.prog Tryz.f54 (AddPost B b g w o (newId S) 0 (addNew S n) (S.L.length+1))) ⟨(.pointer (some ⟨g,0,none⟩) :: s1 :: s2 :: .pointer (some ⟨w.heap.size,0,none⟩) :: s4 :: s5 :: .pointer (some ⟨cb,0,none⟩) :: s7 :: s8 :: s9 :: .int .i64 (newId S) :: .pointer (some ⟨ob,0,none⟩) :: .pointer (some ⟨kb,0,none⟩) :: s13 :: s14 :: s15 :: s16 :: s17 :: s18 :: s19 :: s20 :: s21 :: s22 :: s23 :: s24 :: s25 :: s26 :: s27 :: s28 :: s29 :: s30 :: s31 :: s32 :: s33 :: s34 :: s35 :: s36 :: s37 :: s38 :: s39 :: s40 :: s41 :: s42 :: s43 :: s44 :: s45 :: s46 :: s47 :: s48 :: s49 :: s50 :: s51 :: s52 :: s53 :: s54 :: s55 :: s56 :: s57 :: s58 :: s59 :: s60 :: s61 :: s62 :: s63 :: s64 :: s65 :: s66 :: s67 :: s68 :: s69 :: s70 :: s71 :: s72 :: s73 :: s74 :: s75 :: s76 :: s77 :: s78 :: s79 :: s80 :: s81 :: s82 :: s83 :: s84 :: s85 :: s86 :: s87 :: s88 :: s89 :: s90 :: s91 :: s92 :: s93 :: s94 :: s95 :: s96 :: s97 :: s98 :: s99 :: s100 :: s101 :: s102 :: s103 :: s104 :: s105 :: s106 :: s107 :: s108 :: s109 :: s110 :: s111 :: s112 :: s113 :: s114 :: s115 :: s116 :: s117 :: s118 :: s119 :: s120 :: s121 :: s122 :: s123 :: s124 :: s125 :: s126 :: s127 :: s128 :: s129 :: s130 :: s131 :: s132 :: s133 :: s134 :: s135 :: s136 :: s137 :: s138 :: s139 :: s140 :: s141 :: s142 :: s143 :: s144 :: s145 :: s146 :: s147 :: s148 :: s149 :: s150 :: s151 :: s152 :: s153 :: s154 :: s155 :: s156 :: s157 :: s158 :: s159 :: s160 :: s161 :: s162 :: s163 :: s164 :: s165 :: s166 :: s167 :: s168 :: s169 :: s170 :: s171 :: s172 :: s173 :: s174 :: s175 :: s176 :: s177 :: s178 :: s179 :: s180 :: s181 :: s182 :: s183 :: s184 :: []).toArray,[]⟩ wx
noncomputable def addC (k:Nat):Code:=Nat.rec ((Tryz.f54.body).getD .skip) (fun _ x=>tl x) k
theorem inf56:(Tryz.prog.info? 56).map (fun i=>(i.zero,i.size,i.bytes))=some (some (.agg #[.int .i64 0,.int .i64 0,.int .u64 0,.string ⟨#[]⟩,.slice none 0 0]),5,64):=by kernel_rfl
theorem inf26:(Tryz.prog.info? 26).map (fun i=>(i.zero,i.size,i.bytes))=some (some (.slice none 0 0),1,24):=by kernel_rfl
theorem NodesRow.snoc {w w1:World} {o o1:Own} {t:Nat} {v1:Value} {rs:List NV} {nd:Nd} {va:SL} (hI:∀ r∈rs,Imm w o r.va.v r.nd.args) (h:Row kNV 56 w1 o1 t v1 (rs++[⟨nd,va⟩])) (f:Kp (·=t) w o w1 o1) (ht:t≠0) (hi:Imm w o va.v nd.args):NodesRow w1 o1 t v1 (rs.map NV.nd++[nd]):=by
 refine ⟨_,h,by simp,fun r hr=>?_⟩
 rcases List.mem_append.1 hr with h1 | h1
 ·exact (hI r h1).fr f (fun e=>ht e.symm)
 ·rw [List.mem_singleton.1 h1]
  exact hi.fr f (fun e=>ht e.symm)
end Go.Proofs.YtjckhhecnebmmaaGreatDoor.TU
end
section
namespace Go.Proofs.YtjckhhecnebmmaaGreatDoor.TU
open Go.RowKit Go.Proofs.YtjckhhecnebmmaaGreatDoorW.PrintWords Go.Proofs.YtjckhhecnebmmaaGreatDoorW.PrintLast Go.Proofs.YtjckhhecnebmmaaGreatDoorW.PrintMore Go.Proofs.YtjckhhecnebmmaaGreatDoor.QAll
attribute [local go_sem] max2_int min2_int max_two min_two max_three min_three max_four min_four
set_option linter.unusedVariables false
set_option maxRecDepth 100000 in
def SegB (code:Code) (B b g tg:Nat) (w:World) (o:Own) (S:St) (n:Nd) (A:Option Addr) (c:Nat) (T:St):Prop :=
 ∀ (cb:Nat) (C:Cl) (wx:World) (o1:Own) (ob:Nat) (s1 s2 s4 s5 s7 s8 s9 s12 s13 s14 s15 s16 s17 s18 s19 s20 s21 s22 s23 s24 s25 s26 s27 s28 s29 s30 s31 s32 s33 s34 s35 s36 s37 s38 s39 s40 s41 s42 s43 s44 s45 s46 s47 s48 s49 s50 s51 s52 s53 s54 s55 s56 s57 s58 s59 s60 s61 s62 s63 s64 s65 s66 s67 s68 s69 s70 s71 s72 s73 s74 s75 s76 s77 s78 s79 s80 s81 s82 s83 s84 s85 s86 s87 s88 s89 s90 s91 s92 s93 s94 s95 s96 s97 s98 s99 s100 s101 s102 s103 s104 s105 s106 s107 s108 s109 s110 s111 s112 s113 s114 s115 s116 s117 s118 s119 s120 s121 s122 s123 s124 s125 s126 s127 s128 s129 s130 s131 s132 s133 s134 s135 s136 s137 s138 s139 s140 s141 s142 s143 s144 s145 s146 s147 s148 s149 s150 s151 s152 s153 s154 s155 s156 s157 s158 s159 s160 s161 s162 s163 s164 s165 s166 s167 s168 s169 s170 s171 s172 s173 s174 s175 s176 s177 s178 s179 s180 s181 s182 s183 s184:Value),AS B b g cb w.heap.size tg w o n A c wx o1 C T→Box wx o1 ob n →
  Code.wp Tryz.prog code (bodyPost Tryz.prog Tryz.f54 (AddPost B b g w o (newId S) 0 (addNew S n) (S.L.length+1))) ⟨(.pointer (some ⟨g,0,none⟩) :: s1 :: s2 :: .pointer (some ⟨w.heap.size,0,none⟩) :: s4 :: s5 :: .pointer (some ⟨cb,0,none⟩) :: s7 :: s8 :: s9 :: .int .i64 (newId S) :: .pointer (some ⟨ob,0,none⟩) :: s12 :: s13 :: s14 :: s15 :: s16 :: s17 :: s18 :: s19 :: s20 :: s21 :: s22 :: s23 :: s24 :: s25 :: s26 :: s27 :: s28 :: s29 :: s30 :: s31 :: s32 :: s33 :: s34 :: s35 :: s36 :: s37 :: s38 :: s39 :: s40 :: s41 :: s42 :: s43 :: s44 :: s45 :: s46 :: s47 :: s48 :: s49 :: s50 :: s51 :: s52 :: s53 :: s54 :: s55 :: s56 :: s57 :: s58 :: s59 :: s60 :: s61 :: s62 :: s63 :: s64 :: s65 :: s66 :: s67 :: s68 :: s69 :: s70 :: s71 :: s72 :: s73 :: s74 :: s75 :: s76 :: s77 :: s78 :: s79 :: s80 :: s81 :: s82 :: s83 :: s84 :: s85 :: s86 :: s87 :: s88 :: s89 :: s90 :: s91 :: s92 :: s93 :: s94 :: s95 :: s96 :: s97 :: s98 :: s99 :: s100 :: s101 :: s102 :: s103 :: s104 :: s105 :: s106 :: s107 :: s108 :: s109 :: s110 :: s111 :: s112 :: s113 :: s114 :: s115 :: s116 :: s117 :: s118 :: s119 :: s120 :: s121 :: s122 :: s123 :: s124 :: s125 :: s126 :: s127 :: s128 :: s129 :: s130 :: s131 :: s132 :: s133 :: s134 :: s135 :: s136 :: s137 :: s138 :: s139 :: s140 :: s141 :: s142 :: s143 :: s144 :: s145 :: s146 :: s147 :: s148 :: s149 :: s150 :: s151 :: s152 :: s153 :: s154 :: s155 :: s156 :: s157 :: s158 :: s159 :: s160 :: s161 :: s162 :: s163 :: s164 :: s165 :: s166 :: s167 :: s168 :: s169 :: s170 :: s171 :: s172 :: s173 :: s174 :: s175 :: s176 :: s177 :: s178 :: s179 :: s180 :: s181 :: s182 :: s183 :: s184 :: []).toArray,[]⟩ wx
set_option maxHeartbeats 12800000 in
set_option maxRecDepth 100000 in
theorem seg14 {B b g tg:Nat} {w:World} {o:Own} {S:St} {n:Nd} {A:Option Addr} {c:Nat} (E:AddEnv B b g tg w o S n) (next:Seg (addC 9) B b g tg w o S n A c (st1 S)):SegB (addC 8) B b g tg w o S n A c (st1 S):=by
 intro cb C w6 o6 ob s1 s2 s4 s5 s7 s8 s9 s12 s13 s14 s15 s16 s17 s18 s19 s20 s21 s22 s23 s24 s25 s26 s27 s28 s29 s30 s31 s32 s33 s34 s35 s36 s37 s38 s39 s40 s41 s42 s43 s44 s45 s46 s47 s48 s49 s50 s51 s52 s53 s54 s55 s56 s57 s58 s59 s60 s61 s62 s63 s64 s65 s66 s67 s68 s69 s70 s71 s72 s73 s74 s75 s76 s77 s78 s79 s80 s81 s82 s83 s84 s85 s86 s87 s88 s89 s90 s91 s92 s93 s94 s95 s96 s97 s98 s99 s100 s101 s102 s103 s104 s105 s106 s107 s108 s109 s110 s111 s112 s113 s114 s115 s116 s117 s118 s119 s120 s121 s122 s123 s124 s125 s126 s127 s128 s129 s130 s131 s132 s133 s134 s135 s136 s137 s138 s139 s140 s141 s142 s143 s144 s145 s146 s147 s148 s149 s150 s151 s152 s153 s154 s155 s156 s157 s158 s159 s160 s161 s162 s163 s164 s165 s166 s167 s168 s169 s170 s171 s172 s173 s174 s175 s176 s177 s178 s179 s180 s181 s182 s183 s184 hA6 hob
 conv=>arg 2;whnf
 have hcan:∀ wr,Below w6.heap.size w6 wr→Calls Tryz.prog 48 #[.agg (n.cells (.slice A n.args.length c)),.func (.func 49) #[.pointer (some ⟨C.sg,0,none⟩)] #[]] wr fun e w'=>∃ va',e=.returned (.agg (n.cells va'))∧Fresh wr w' va' (n.args.map (fnd (newP S)))∧Below wr.heap.size wr w':=fun wr hb=>canon_find (hA6.core.sets.uf.below hb) (by have:=E.hS.hp;have:=E.few;show (S.p++[(S.p.length:Int)]).length≤1000;simp;omega) (well_snoc E.hS.well) n _ (hA6.held.below hb) E.hn.few
 have g0:=hA6.core.at0
 have x0:w6.cell? ⟨w.heap.size,0,none⟩=some (.int .i64 n.op):=(blk_cell hA6.nb.1.1 0).trans rfl
 have x1:w6.cell? ⟨w.heap.size,1,none⟩=some (.int .i64 n.width):=(blk_cell hA6.nb.1.1 1).trans rfl
 have x2:w6.cell? ⟨w.heap.size,2,none⟩=some (.int .u64 n.val):=(blk_cell hA6.nb.1.1 2).trans rfl
 have x3:w6.cell? ⟨w.heap.size,3,none⟩=some (.string n.name):=(blk_cell hA6.nb.1.1 3).trans rfl
 have x4:w6.cell? ⟨w.heap.size,4,none⟩=some (.slice A n.args.length c):=(blk_cell hA6.nb.1.1 4).trans rfl
 have L1:=Lib.hid (fun wr (hb:Below w6.heap.size w6 wr)=>show wr.cell? ⟨cb,0,none⟩=some (.pointer (some ⟨C.sg,0,none⟩))∧wr.cell? ⟨w.heap.size,0,none⟩=some (.int .i64 n.op)∧wr.cell? ⟨w.heap.size,1,none⟩=some (.int .i64 n.width)∧wr.cell? ⟨w.heap.size,2,none⟩=some (.int .u64 n.val)∧wr.cell? ⟨w.heap.size,3,none⟩=some (.string n.name)∧wr.cell? ⟨w.heap.size,4,none⟩=some (.slice A n.args.length c)from ⟨pw_cell_below hb g0,pw_cell_below hb x0,pw_cell_below hb x1,pw_cell_below hb x2,pw_cell_below hb x3,pw_cell_below hb x4⟩)
 have hmf:∀ (fn:Fn) (first cap:Array Value) (w:World),(Instr.makeFunc fn first cap).run Tryz.prog w=.ok (.func fn first cap) w:=fun _ _ _ _=>rfl
 have HCAN:=Lib.hid hcan
 have HA6:=Lib.hid hA6
 have HOB:=Lib.hid hob
 have HE:=Lib.hid E
 have HNX:=Lib.hid next
 obtain ⟨q0,q1,q2,q3,q4,q5⟩:=L1.out w6.drew (Below.refl _ _).drew
 clear hcan hA6 hob x0 x1 x2 x3 x4 g0 E next
 simp only [Nd.cells]at HCAN
 refine wp_seq_k ?_
 intro K hK
 go_cut [12] (fun s12 wx=>∃ kb,s12=.pointer (some ⟨kb,0,none⟩)∧Hid (∃ o7,AS B b g cb w.heap.size tg w o n A c wx o7 C (st1 S)∧Box wx o7 ob n∧Box wx o7 kb (newKey S n)))
 case first =>
  go_region_held3 (fun wr=>wr.cell? ⟨cb,0,none⟩=some (.pointer (some ⟨C.sg,0,none⟩))∧wr.cell? ⟨w.heap.size,0,none⟩=some (.int .i64 n.op)∧wr.cell? ⟨w.heap.size,1,none⟩=some (.int .i64 n.width)∧wr.cell? ⟨w.heap.size,2,none⟩=some (.int .u64 n.val)∧wr.cell? ⟨w.heap.size,3,none⟩=some (.string n.name)∧wr.cell? ⟨w.heap.size,4,none⟩=some (.slice A n.args.length c))
   ((refine L1.out _ ?_;(repeat (with_reducible refine bel_set ?_ _ _ _ (by first | exact Nat.le_refl _ | exact HBW2.out.size)));first | exact (Below.refl _ _).drew | exact (Below.refl _ _).drew.alloc (Nat.le_refl _) _ | exact HBW2.out | exact HBW2.out.alloc HBW2.out.size _))
   ((go_at_call 48;refine (HCAN.out _ ?_).mono ?_;(first | exact (Below.refl _ _).drew | exact (Below.refl _ _).drew.alloc (Nat.le_refl _) _);rintro e w7 ⟨v2,rfl,hf2,hb2⟩;obtain ⟨A2,c2,hv2,_⟩:=id hf2;subst hv2;simp only [List.length_map]at hf2;have hbw2:Below w6.heap.size w6 w7:=(by first | exact (Below.refl _ _).drew.trans hb2 | exact ((Below.refl _ _).drew.alloc (Nat.le_refl _) _).trans (hb2.mono (by simp)));(first | (have hz:w7.heap[w6.heap.size]?=some (.cells #[.int .i64 0,.int .i64 0,.int .u64 0,.string ⟨#[]⟩,.slice none 0 0] 56 (0,0)):=blk_below (w:=(w6.alloc (.cells #[.int .i64 0,.int .i64 0,.int .u64 0,.string ⟨#[]⟩,.slice none 0 0] 56)).drew) (blk_new w6 _) hb2;have z0:w7.cell? ⟨w6.heap.size,0,none⟩=some (.int .i64 0):=(blk_cell hz 0).trans rfl;have z1:w7.cell? ⟨w6.heap.size,1,none⟩=some (.int .i64 0):=(blk_cell hz 1).trans rfl;have z2:w7.cell? ⟨w6.heap.size,2,none⟩=some (.int .u64 0):=(blk_cell hz 2).trans rfl;have z3:w7.cell? ⟨w6.heap.size,3,none⟩=some (.string ⟨#[]⟩):=(blk_cell hz 3).trans rfl;have z4:w7.cell? ⟨w6.heap.size,4,none⟩=some (.slice none 0 0):=(blk_cell hz 4).trans rfl;have y0:=blk_frozen hz 0;have y1:=blk_frozen hz 1;have y2:=blk_frozen hz 2;have y3:=blk_frozen hz 3;have y4:=blk_frozen hz 4;have HZ:=Lib.hid hz;clear hz) | skip);have HF2:=Lib.hid hf2;have HBW2:=Lib.hid hbw2;have HB2:=Lib.hid hb2;clear hf2 hb2 hbw2))
  ·go_wp2_with fail
   go_meet
   exact ⟨_,rfl,as_key HA6.out HE.out.htg HE.out.hb0 HOB.out (by simp [newKey,canonN]) (HBW2.out.alloc HBW2.out.size _) HBW2.out.size (blk_new w7 _) ((HF2.out.lower (Nat.le_refl _)).below (below_alloc (Below.refl _ _) _))⟩
  all_goals
   go_wp2_with fail
   go_meet
   refine ⟨_,rfl,as_key HA6.out HE.out.htg HE.out.hb0 HOB.out (by simp [newKey,canonN]) (bel_set (bel_set (bel_set (bel_set (bel_set HBW2.out _ _ _ (Nat.le_refl _)) _ _ _ (Nat.le_refl _)) _ _ _ (Nat.le_refl _)) _ _ _ (Nat.le_refl _)) _ _ _ (Nat.le_refl _)) (Nat.le_refl _) (node_stored HZ.out _ _ _ _ _) ?_⟩
   exact (((((HF2.out.set ⟨w6.heap.size,0,none⟩ (by simp) _).set ⟨w6.heap.size,1,none⟩ (by simp) _).set ⟨w6.heap.size,2,none⟩ (by simp) _).set ⟨w6.heap.size,3,none⟩ (by simp) _).set ⟨w6.heap.size,4,none⟩ (by simp) _).lower (by simp)
 case rest =>
  obtain ⟨kb,rfl,o7,h1,h2,h3⟩:=hcut
  refine hK _ _ ?_
  exact HNX.out cb C wc o7 ob kb _ _ _ _ _ _ _ _ _ _ _ _ _ _ _ _ _ _ _ _ _ _ _ _ _ _ _ _ _ _ _ _ _ _ _ _ _ _ _ _ _ _ _ _ _ _ _ _ _ _ _ _ _ _ _ _ _ _ _ _ _ _ _ _ _ _ _ _ _ _ _ _ _ _ _ _ _ _ _ _ _ _ _ _ _ _ _ _ _ _ _ _ _ _ _ _ _ _ _ _ _ _ _ _ _ _ _ _ _ _ _ _ _ _ _ _ _ _ _ _ _ _ _ _ _ _ _ _ _ _ _ _ _ _ _ _ _ _ _ _ _ _ _ _ _ _ _ _ _ _ _ _ _ _ _ _ _ _ _ _ _ _ _ _ _ _ _ _ _ _ _ _ _ _ _ _ _ _ _ h1 h2 h3
end Go.Proofs.YtjckhhecnebmmaaGreatDoor.TU
end
section
namespace Go.Proofs.YtjckhhecnebmmaaGreatDoor.TU
open Go.RowKit Go.Proofs.YtjckhhecnebmmaaGreatDoorW.PrintWords Go.Proofs.YtjckhhecnebmmaaGreatDoorW.PrintLast Go.Proofs.YtjckhhecnebmmaaGreatDoorW.PrintMore Go.Proofs.YtjckhhecnebmmaaGreatDoor.QAll
attribute [local go_sem] max2_int min2_int max_two min_two max_three min_three max_four min_four
set_option linter.unusedVariables false
set_option maxHeartbeats 12800000 in
set_option maxRecDepth 100000 in
theorem seg15 {B b g tg:Nat} {w:World} {o:Own} {S:St} {n:Nd} {A:Option Addr} {c:Nat} (E:AddEnv B b g tg w o S n) (next:Seg (addC 10) B b g tg w o S n A c (st2 S n)):Seg (addC 9) B b g tg w o S n A c (st1 S):=by
 intro cb C wx o1 ob kb s1 s2 s4 s5 s7 s8 s9 s13 s14 s15 s16 s17 s18 s19 s20 s21 s22 s23 s24 s25 s26 s27 s28 s29 s30 s31 s32 s33 s34 s35 s36 s37 s38 s39 s40 s41 s42 s43 s44 s45 s46 s47 s48 s49 s50 s51 s52 s53 s54 s55 s56 s57 s58 s59 s60 s61 s62 s63 s64 s65 s66 s67 s68 s69 s70 s71 s72 s73 s74 s75 s76 s77 s78 s79 s80 s81 s82 s83 s84 s85 s86 s87 s88 s89 s90 s91 s92 s93 s94 s95 s96 s97 s98 s99 s100 s101 s102 s103 s104 s105 s106 s107 s108 s109 s110 s111 s112 s113 s114 s115 s116 s117 s118 s119 s120 s121 s122 s123 s124 s125 s126 s127 s128 s129 s130 s131 s132 s133 s134 s135 s136 s137 s138 s139 s140 s141 s142 s143 s144 s145 s146 s147 s148 s149 s150 s151 s152 s153 s154 s155 s156 s157 s158 s159 s160 s161 s162 s163 s164 s165 s166 s167 s168 s169 s170 s171 s172 s173 s174 s175 s176 s177 s178 s179 s180 s181 s182 s183 s184 hA hob hkb
 conv=>arg 2;whnf
 obtain ⟨Av,cv,hv0⟩:=hA.core.nodes.slice
 have hv:C.vn=.slice Av (S.ns).length cv:=hv0
 clear hv0
 have hrow:=hA.core.nodes
 rw [hv]at hrow
 obtain ⟨rs,hR,hmap,hImm⟩:=hrow
 have hgl:=blk_lt hA.core.blk.1
 have g1:=hA.core.at1
 rw [hv]at g1
 have hlenE:(S.ns).length≤600:=by have h1:=E.hS.hk;have h2:=E.few;(first | omega | (show S.ks.length≤600;omega))
 have hrl:rs.length=(S.ns).length:=by rw [← List.length_map (f:=NV.nd),hmap];rfl
 obtain ⟨Ao,co,hBo,hIo⟩:=id hob
 have HO:=Lib.hid hob
 have HK:=Lib.hid hkb
 have HA:=Lib.hid hA
 have HBo:=Lib.hid hBo
 have HIo:=Lib.hid hIo
 have HR:=Lib.hid hR
 have HMAP:=Lib.hid hmap
 have HIMM:=Lib.hid hImm
 have HNX:=Lib.hid next
 have HE:=Lib.hid E
 have HV:=Lib.hid hv
 have HRL:=Lib.hid hrl
 clear hob hkb hA hBo hIo hR hmap hImm next E hv hrl
 generalize hL:(S.ns).length=L at *
 have HLE:=Lib.hid hL
 clear hL
 have ga:wx.drew.cell? ⟨cb,1,none⟩=some (.slice Av L cv):=g1
 have gb0:wx.drew.cell? ⟨ob,0,none⟩=some (.int .i64 n.op):=(blk_cell HBo.out.1 0).trans rfl
 have gb1:wx.drew.cell? ⟨ob,1,none⟩=some (.int .i64 n.width):=(blk_cell HBo.out.1 1).trans rfl
 have gb2:wx.drew.cell? ⟨ob,2,none⟩=some (.int .u64 n.val):=(blk_cell HBo.out.1 2).trans rfl
 have gb3:wx.drew.cell? ⟨ob,3,none⟩=some (.string n.name):=(blk_cell HBo.out.1 3).trans rfl
 have gb4:wx.drew.cell? ⟨ob,4,none⟩=some (.slice Ao n.args.length co):=(blk_cell HBo.out.1 4).trans rfl
 have gfz:=blk_frozen HA.out.core.blk.1 1
 have ka:(wx.drew.alloc (.cells #[.int .i64 n.op,.int .i64 n.width,.int .u64 n.val,.string n.name,.slice Ao n.args.length co] 56)).cell? ⟨cb,1,none⟩=some (.slice Av L cv):=by
  have h:=blk_cell (blk_alloc HA.out.core.blk.1 (.cells #[.int .i64 n.op,.int .i64 n.width,.int .u64 n.val,.string n.name,.slice Ao n.args.length co] 56)) 1
  have h2:=(blk_cell HA.out.core.blk.1 1).symm.trans g1
  exact h.trans h2
 have kb0:(wx.drew.alloc (.cells #[.int .i64 n.op,.int .i64 n.width,.int .u64 n.val,.string n.name,.slice Ao n.args.length co] 56)).cell? ⟨ob,0,none⟩=some (.int .i64 n.op):=(blk_cell (blk_alloc HBo.out.1 _) 0).trans rfl
 have kb1:(wx.drew.alloc (.cells #[.int .i64 n.op,.int .i64 n.width,.int .u64 n.val,.string n.name,.slice Ao n.args.length co] 56)).cell? ⟨ob,1,none⟩=some (.int .i64 n.width):=(blk_cell (blk_alloc HBo.out.1 _) 1).trans rfl
 have kb2:(wx.drew.alloc (.cells #[.int .i64 n.op,.int .i64 n.width,.int .u64 n.val,.string n.name,.slice Ao n.args.length co] 56)).cell? ⟨ob,2,none⟩=some (.int .u64 n.val):=(blk_cell (blk_alloc HBo.out.1 _) 2).trans rfl
 have kb3:(wx.drew.alloc (.cells #[.int .i64 n.op,.int .i64 n.width,.int .u64 n.val,.string n.name,.slice Ao n.args.length co] 56)).cell? ⟨ob,3,none⟩=some (.string n.name):=(blk_cell (blk_alloc HBo.out.1 _) 3).trans rfl
 have kb4:(wx.drew.alloc (.cells #[.int .i64 n.op,.int .i64 n.width,.int .u64 n.val,.string n.name,.slice Ao n.args.length co] 56)).cell? ⟨ob,4,none⟩=some (.slice Ao n.args.length co):=(blk_cell (blk_alloc HBo.out.1 _) 4).trans rfl
 have la:(wx.alloc (.cells #[.int .i64 n.op,.int .i64 n.width,.int .u64 n.val,.string n.name,.slice Ao n.args.length co] 56)).cell? ⟨cb,1,none⟩=some (.slice Av L cv):=ka
 refine wp_seq_k ?_
 intro K hK
 go_cut [] (fun wy=>Hid (∃ o2 C2,AS B b g cb w.heap.size tg w o n A c wy o2 C2 (st2 S n)∧Box wy o2 ob n∧Box wy o2 kb (newKey S n)))
 case first =>
  go_region_law
   ((refine Kd.R_append_step kNV (w0:=wx.drew) (W:=wx.drew) 0 (by rfl) (.tmp 66) (.tmp 68) 49 56 (.agg #[.int .i64 0,.int .i64 0,.int .u64 0,.string ⟨#[]⟩,.slice none 0 0]) 64 (by rfl) Tryz.underlying49 inf56 rfl (by decide) (by decide) (.slice Av L cv) rs (⟨n,⟨Ao,(n).args.length,co⟩⟩:NV) [.int .i64 n.op,.int .i64 n.width,.int .u64 n.val,.string n.name,.slice Ao n.args.length co] (fun k=>o1.from_ wx.drew.heap.size (b+5) k=b+5) (fun _=>False) (by rfl) (by rfl) rfl (fun _ h=>h.elim) (fun k hk=>Own.from_ge hk) ((show Row kNV 56 wx.drew o1 (b+5) (.slice Av L cv) rs from HR.out.fr ((Kp.refl (fun _=>False) wx o1).drew) id).renew (b+5)) (Below.refl _ _) (Nat.zero_le _) (by have h:=HRL.out;have h2:=HLE.out;omega) ?_;intro v5 w5 h5 _ hg5 _;obtain ⟨A5,c5,hv5⟩:=Kd.R_slice h5;subst hv5;rw [List.length_append,List.length_singleton]at h5;have HR5:=Lib.hid h5;have kp5:=Lib.hid ((((Kp.refl (·=b+5) wx o1).drew).renew (b+5)).grown hg5 (fun q e=>.inl (by have hk2:=(Kd.R_bound HR.out).1 q e;exact (Own.from_lt hk2.2.2.1).trans hk2.1)));have f5:=Lib.hid ((((Fr.start (·=b+5) wx o1 (b+5) (.inr rfl)).drew)).grown hg5 (fun q e=>.inl (by have hk2:=(Kd.R_bound HR.out).1 q e;exact (Own.from_lt hk2.2.2.1).trans hk2.1)));have hb5:=HA.out.core.blk.fr kp5.out (by omega);have ma:w5.cell? ⟨cb,1,none⟩=some (.slice Av L cv):=kp5.out.cell g1 (by rw [HA.out.core.blk.2];omega);have mfz:=blk_frozen hb5.1 1;clear h5 hg5 hb5))
  all_goals go_wp2_with fail
  all_goals
   go_meet
   have hsn:=NodesRow.snoc HIMM.out HR5.out kp5.out (by omega) HIo.out
   rw [HMAP.out]at hsn
   have hcore:=HA.out.core.onNodes kp5.out hsn
   have hfr:Fr (CoreM b) wx o1 (w5.setCell ⟨cb,1,none⟩ (.slice A5 (rs.length+1) c5)) (o1.from_ wx.heap.size (b+5)):=(f5.out.mono (M':=CoreM b) (fun t h=>by subst h;unfold CoreM;omega)).setCell ⟨cb,1,none⟩ _ (.inl (by rw [Own.from_lt hgl,HA.out.core.blk.2];unfold CoreM;omega))
   have hA2:=HA.out.next HE.out.htg HE.out.hb0 hcore hfr
   have hk0:¬ CoreM b 0:=by unfold CoreM;omega
   exact ⟨_,_,hA2,HO.out.fr hfr.kp hk0,HK.out.fr hfr.kp hk0⟩
 case rest =>
  refine hK _ _ ?_
  obtain ⟨o2,C2,h1,h2,h3⟩:=hcut
  exact HNX.out cb C2 wc o2 ob kb _ _ _ _ _ _ _ _ _ _ _ _ _ _ _ _ _ _ _ _ _ _ _ _ _ _ _ _ _ _ _ _ _ _ _ _ _ _ _ _ _ _ _ _ _ _ _ _ _ _ _ _ _ _ _ _ _ _ _ _ _ _ _ _ _ _ _ _ _ _ _ _ _ _ _ _ _ _ _ _ _ _ _ _ _ _ _ _ _ _ _ _ _ _ _ _ _ _ _ _ _ _ _ _ _ _ _ _ _ _ _ _ _ _ _ _ _ _ _ _ _ _ _ _ _ _ _ _ _ _ _ _ _ _ _ _ _ _ _ _ _ _ _ _ _ _ _ _ _ _ _ _ _ _ _ _ _ _ _ _ _ _ _ _ _ _ _ _ _ _ _ _ _ _ _ _ _ _ _ h1 h2 h3
end Go.Proofs.YtjckhhecnebmmaaGreatDoor.TU
end
section
namespace Go.Proofs.YtjckhhecnebmmaaGreatDoor.TU
open Go.RowKit Go.Proofs.YtjckhhecnebmmaaGreatDoorW.PrintWords Go.Proofs.YtjckhhecnebmmaaGreatDoorW.PrintLast Go.Proofs.YtjckhhecnebmmaaGreatDoorW.PrintMore Go.Proofs.YtjckhhecnebmmaaGreatDoor.QAll
attribute [local go_sem] max2_int min2_int max_two min_two max_three min_three max_four min_four
set_option linter.unusedVariables false
set_option maxHeartbeats 12800000 in
set_option maxRecDepth 100000 in
theorem seg16 {B b g tg:Nat} {w:World} {o:Own} {S:St} {n:Nd} {A:Option Addr} {c:Nat} (E:AddEnv B b g tg w o S n) (next:Seg (addC 11) B b g tg w o S n A c (st3 S n)):Seg (addC 10) B b g tg w o S n A c (st2 S n):=by
 intro cb C wx o1 ob kb s1 s2 s4 s5 s7 s8 s9 s13 s14 s15 s16 s17 s18 s19 s20 s21 s22 s23 s24 s25 s26 s27 s28 s29 s30 s31 s32 s33 s34 s35 s36 s37 s38 s39 s40 s41 s42 s43 s44 s45 s46 s47 s48 s49 s50 s51 s52 s53 s54 s55 s56 s57 s58 s59 s60 s61 s62 s63 s64 s65 s66 s67 s68 s69 s70 s71 s72 s73 s74 s75 s76 s77 s78 s79 s80 s81 s82 s83 s84 s85 s86 s87 s88 s89 s90 s91 s92 s93 s94 s95 s96 s97 s98 s99 s100 s101 s102 s103 s104 s105 s106 s107 s108 s109 s110 s111 s112 s113 s114 s115 s116 s117 s118 s119 s120 s121 s122 s123 s124 s125 s126 s127 s128 s129 s130 s131 s132 s133 s134 s135 s136 s137 s138 s139 s140 s141 s142 s143 s144 s145 s146 s147 s148 s149 s150 s151 s152 s153 s154 s155 s156 s157 s158 s159 s160 s161 s162 s163 s164 s165 s166 s167 s168 s169 s170 s171 s172 s173 s174 s175 s176 s177 s178 s179 s180 s181 s182 s183 s184 hA hob hkb
 conv=>arg 2;whnf
 obtain ⟨Av,cv,hv0⟩:=hA.core.keys.slice
 have hv:C.vk=.slice Av (S.ks).length cv:=hv0
 clear hv0
 have hrow:=hA.core.keys
 rw [hv]at hrow
 obtain ⟨rs,hR,hmap,hImm⟩:=hrow
 have hgl:=blk_lt hA.core.blk.1
 have g1:=hA.core.at2
 rw [hv]at g1
 have hlenE:(S.ks).length≤600:=by have h1:=E.hS.hk;have h2:=E.few;(first | omega | (show S.ks.length≤600;omega))
 have hrl:rs.length=(S.ks).length:=by rw [← List.length_map (f:=NV.nd),hmap];rfl
 obtain ⟨Ao,co,hBo,hIo⟩:=id hkb
 have HO:=Lib.hid hob
 have HK:=Lib.hid hkb
 have HA:=Lib.hid hA
 have HBo:=Lib.hid hBo
 have HIo:=Lib.hid hIo
 have HR:=Lib.hid hR
 have HMAP:=Lib.hid hmap
 have HIMM:=Lib.hid hImm
 have HNX:=Lib.hid next
 have HE:=Lib.hid E
 have HV:=Lib.hid hv
 have HRL:=Lib.hid hrl
 clear hob hkb hA hBo hIo hR hmap hImm next E hv hrl
 generalize hL:(S.ks).length=L at *
 have HLE:=Lib.hid hL
 clear hL
 have ga:wx.drew.cell? ⟨cb,2,none⟩=some (.slice Av L cv):=g1
 have gb0:wx.drew.cell? ⟨kb,0,none⟩=some (.int .i64 (newKey S n).op):=(blk_cell HBo.out.1 0).trans rfl
 have gb1:wx.drew.cell? ⟨kb,1,none⟩=some (.int .i64 (newKey S n).width):=(blk_cell HBo.out.1 1).trans rfl
 have gb2:wx.drew.cell? ⟨kb,2,none⟩=some (.int .u64 (newKey S n).val):=(blk_cell HBo.out.1 2).trans rfl
 have gb3:wx.drew.cell? ⟨kb,3,none⟩=some (.string (newKey S n).name):=(blk_cell HBo.out.1 3).trans rfl
 have gb4:wx.drew.cell? ⟨kb,4,none⟩=some (.slice Ao (newKey S n).args.length co):=(blk_cell HBo.out.1 4).trans rfl
 have gfz:=blk_frozen HA.out.core.blk.1 2
 have ka:(wx.drew.alloc (.cells #[.int .i64 (newKey S n).op,.int .i64 (newKey S n).width,.int .u64 (newKey S n).val,.string (newKey S n).name,.slice Ao (newKey S n).args.length co] 56)).cell? ⟨cb,2,none⟩=some (.slice Av L cv):=by
  have h:=blk_cell (blk_alloc HA.out.core.blk.1 (.cells #[.int .i64 (newKey S n).op,.int .i64 (newKey S n).width,.int .u64 (newKey S n).val,.string (newKey S n).name,.slice Ao (newKey S n).args.length co] 56)) 2
  have h2:=(blk_cell HA.out.core.blk.1 2).symm.trans g1
  exact h.trans h2
 have kb0:(wx.drew.alloc (.cells #[.int .i64 (newKey S n).op,.int .i64 (newKey S n).width,.int .u64 (newKey S n).val,.string (newKey S n).name,.slice Ao (newKey S n).args.length co] 56)).cell? ⟨kb,0,none⟩=some (.int .i64 (newKey S n).op):=(blk_cell (blk_alloc HBo.out.1 _) 0).trans rfl
 have kb1:(wx.drew.alloc (.cells #[.int .i64 (newKey S n).op,.int .i64 (newKey S n).width,.int .u64 (newKey S n).val,.string (newKey S n).name,.slice Ao (newKey S n).args.length co] 56)).cell? ⟨kb,1,none⟩=some (.int .i64 (newKey S n).width):=(blk_cell (blk_alloc HBo.out.1 _) 1).trans rfl
 have kb2:(wx.drew.alloc (.cells #[.int .i64 (newKey S n).op,.int .i64 (newKey S n).width,.int .u64 (newKey S n).val,.string (newKey S n).name,.slice Ao (newKey S n).args.length co] 56)).cell? ⟨kb,2,none⟩=some (.int .u64 (newKey S n).val):=(blk_cell (blk_alloc HBo.out.1 _) 2).trans rfl
 have kb3:(wx.drew.alloc (.cells #[.int .i64 (newKey S n).op,.int .i64 (newKey S n).width,.int .u64 (newKey S n).val,.string (newKey S n).name,.slice Ao (newKey S n).args.length co] 56)).cell? ⟨kb,3,none⟩=some (.string (newKey S n).name):=(blk_cell (blk_alloc HBo.out.1 _) 3).trans rfl
 have kb4:(wx.drew.alloc (.cells #[.int .i64 (newKey S n).op,.int .i64 (newKey S n).width,.int .u64 (newKey S n).val,.string (newKey S n).name,.slice Ao (newKey S n).args.length co] 56)).cell? ⟨kb,4,none⟩=some (.slice Ao (newKey S n).args.length co):=(blk_cell (blk_alloc HBo.out.1 _) 4).trans rfl
 have la:(wx.alloc (.cells #[.int .i64 (newKey S n).op,.int .i64 (newKey S n).width,.int .u64 (newKey S n).val,.string (newKey S n).name,.slice Ao (newKey S n).args.length co] 56)).cell? ⟨cb,2,none⟩=some (.slice Av L cv):=ka
 refine wp_seq_k ?_
 intro K hK
 go_cut [] (fun wy=>Hid (∃ o2 C2,AS B b g cb w.heap.size tg w o n A c wy o2 C2 (st3 S n)∧Box wy o2 ob n∧Box wy o2 kb (newKey S n)))
 case first =>
  go_region_law
   ((refine Kd.R_append_step kNV (w0:=wx.drew) (W:=wx.drew) 0 (by rfl) (.tmp 76) (.tmp 78) 49 56 (.agg #[.int .i64 0,.int .i64 0,.int .u64 0,.string ⟨#[]⟩,.slice none 0 0]) 64 (by rfl) Tryz.underlying49 inf56 rfl (by decide) (by decide) (.slice Av L cv) rs (⟨(newKey S n),⟨Ao,((newKey S n)).args.length,co⟩⟩:NV) [.int .i64 (newKey S n).op,.int .i64 (newKey S n).width,.int .u64 (newKey S n).val,.string (newKey S n).name,.slice Ao (newKey S n).args.length co] (fun k=>o1.from_ wx.drew.heap.size (b+6) k=b+6) (fun _=>False) (by rfl) (by rfl) rfl (fun _ h=>h.elim) (fun k hk=>Own.from_ge hk) ((show Row kNV 56 wx.drew o1 (b+6) (.slice Av L cv) rs from HR.out.fr ((Kp.refl (fun _=>False) wx o1).drew) id).renew (b+6)) (Below.refl _ _) (Nat.zero_le _) (by have h:=HRL.out;have h2:=HLE.out;omega) ?_;intro v5 w5 h5 _ hg5 _;obtain ⟨A5,c5,hv5⟩:=Kd.R_slice h5;subst hv5;rw [List.length_append,List.length_singleton]at h5;have HR5:=Lib.hid h5;have kp5:=Lib.hid ((((Kp.refl (·=b+6) wx o1).drew).renew (b+6)).grown hg5 (fun q e=>.inl (by have hk2:=(Kd.R_bound HR.out).1 q e;exact (Own.from_lt hk2.2.2.1).trans hk2.1)));have f5:=Lib.hid ((((Fr.start (·=b+6) wx o1 (b+6) (.inr rfl)).drew)).grown hg5 (fun q e=>.inl (by have hk2:=(Kd.R_bound HR.out).1 q e;exact (Own.from_lt hk2.2.2.1).trans hk2.1)));have hb5:=HA.out.core.blk.fr kp5.out (by omega);have ma:w5.cell? ⟨cb,2,none⟩=some (.slice Av L cv):=kp5.out.cell g1 (by rw [HA.out.core.blk.2];omega);have mfz:=blk_frozen hb5.1 2;clear h5 hg5 hb5))
  all_goals go_wp2_with fail
  all_goals
   go_meet
   have hsn:=NodesRow.snoc HIMM.out HR5.out kp5.out (by omega) HIo.out
   rw [HMAP.out]at hsn
   have hcore:=HA.out.core.onKeys kp5.out hsn
   have hfr:Fr (CoreM b) wx o1 (w5.setCell ⟨cb,2,none⟩ (.slice A5 (rs.length+1) c5)) (o1.from_ wx.heap.size (b+6)):=(f5.out.mono (M':=CoreM b) (fun t h=>by subst h;unfold CoreM;omega)).setCell ⟨cb,2,none⟩ _ (.inl (by rw [Own.from_lt hgl,HA.out.core.blk.2];unfold CoreM;omega))
   have hA2:=HA.out.next HE.out.htg HE.out.hb0 hcore hfr
   have hk0:¬ CoreM b 0:=by unfold CoreM;omega
   exact ⟨_,_,hA2,HO.out.fr hfr.kp hk0,HK.out.fr hfr.kp hk0⟩
 case rest =>
  refine hK _ _ ?_
  obtain ⟨o2,C2,h1,h2,h3⟩:=hcut
  exact HNX.out cb C2 wc o2 ob kb _ _ _ _ _ _ _ _ _ _ _ _ _ _ _ _ _ _ _ _ _ _ _ _ _ _ _ _ _ _ _ _ _ _ _ _ _ _ _ _ _ _ _ _ _ _ _ _ _ _ _ _ _ _ _ _ _ _ _ _ _ _ _ _ _ _ _ _ _ _ _ _ _ _ _ _ _ _ _ _ _ _ _ _ _ _ _ _ _ _ _ _ _ _ _ _ _ _ _ _ _ _ _ _ _ _ _ _ _ _ _ _ _ _ _ _ _ _ _ _ _ _ _ _ _ _ _ _ _ _ _ _ _ _ _ _ _ _ _ _ _ _ _ _ _ _ _ _ _ _ _ _ _ _ _ _ _ _ _ _ _ _ _ _ _ _ _ _ _ _ _ _ _ _ _ _ _ _ _ h1 h2 h3
end Go.Proofs.YtjckhhecnebmmaaGreatDoor.TU
end

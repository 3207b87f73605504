/- Steps towards the law TopUndoes; words printed by the kit, and printed texts, are cut to what is used, and spaces are left out. No condition. -/
import Derived.Test.YtjckhhecnebmmaaGreatDoorZ15
import Derived.Test.YtjckhhecnebmmaaGreatDoorZ16
import Derived.Test.YtjckhhecnebmmaaGreatDoorZ17
set_option linter.unusedVariables false
set_option linter.unusedSimpArgs false
section
namespace Go.Proofs.YtjckhhecnebmmaaGreatDoor.TU
open Go.RowKit Go.Proofs.YtjckhhecnebmmaaGreatDoorW.PrintWords Go.Proofs.YtjckhhecnebmmaaGreatDoorW.PrintLast Go.Proofs.YtjckhhecnebmmaaGreatDoorW.PrintMore Go.Proofs.YtjckhhecnebmmaaGreatDoor.QAll
attribute [local go_sem] max2_int min2_int max_two min_two max_three min_three max_four min_four
set_option linter.unusedVariables false
open Classical in
noncomputable def nameB (s:ByteArray):Bool:=if ∃ k,term_Name.f k s=some true then true else false
def argW (S:St) (a:Int):Int:=(S.ns.getD a.toNat zNd).width
def argsIn (S:St) (n:Nd):Bool:=n.args.all fun a=>decide (0≤a) && decide (a < S.ns.length)
def clash (S:St) (n:Nd):Bool:=match S.vs (lits_ n.name)with
 | some v=>decide (intOf v≠n.width)
 | none=>false
def bad2 (n:Nd):Bool:=(!decide (n.name.toList=[]) && !decide (n.op=1)) || (!decide (n.val=0) && !decide (n.op=2) && !decide (n.op=21))
noncomputable def bad3 (n:Nd):Bool:=decide (n.op=1) && !nameB n.name
def bad5 (S:St) (n:Nd):Bool:=decide (n.width < 1) || !decide ((opWidth n.op n.width n.val (n.args.map (argW S))).2=0) || !decide ((opWidth n.op n.width n.val (n.args.map (argW S))).1=n.width)
def bad6 (S:St) (n:Nd):Bool:=decide (n.op=1) && clash S n
noncomputable def flawF (S:St) (n:Nd):Int :=
 if arity n.op < 0∨(24≤n.op∧n.op≤26)∨(n.args.length:Int)≠arity n.op then 4
 else if bad2 n=true then 4
 else if bad3 n=true then 5
 else if argsIn S n=false then 2
 else if bad5 S n=true then 3
 else if bad6 S n=true then 12
 else 0
def FlawPost (w:World) (r:Int) (e:Ending) (w':World):Prop:=e=.returned (.int .i64 r)∧Below w.heap.size w w'
theorem name_l0 (s:ByteArray) (hs:s.size≤1000000):∀ (k j:Nat),s.size≤j+k→∃ r,term_Name.l0 (k+1) s (s.size:Int) (j:Int)=some r:=by
 intro k
 induction k with
 | zero =>
  intro j h
  simp only [term_Name.l0]
  rw [if_neg (by omega)]
  exact ⟨_,rfl⟩
 | succ k ih =>
  intro j h
  rw [term_Name.l0]
  by_cases hj:(j:Int) < (s.size:Int)
  ·rw [if_pos hj,if_pos (by omega),if_pos hj]
   have hw:wrap64 ((j:Int)+1)=((j+1:Nat):Int):=by rw [IntWalk.wrap64_in _ (by omega)];omega
   rw [hw]
   obtain ⟨r,hi⟩:=ih (j+1) (by omega)
   rw [hi]
   generalize bt s (j:Int)=x
   repeat' split
   all_goals exact ⟨_,rfl⟩
  ·rw [if_neg hj]
   exact ⟨_,rfl⟩
theorem name_total (s:ByteArray) (hs:s.size≤1000000):∃ k r,term_Name.f k s=some r:=by
 obtain ⟨r,hr⟩:=name_l0 s hs s.size 0 (by omega)
 refine ⟨s.size+2,?_⟩
 unfold term_Name.f
 have hj:∀ b,∃ r,term_Name.j0 (s.size+2) s b=some r:=fun b=>by
  show ∃ r,(if b=true then some false else term_Name.l0 (s.size+1) s (s.size:Int) 0)=some r
  split
  ·exact ⟨_,rfl⟩
  ·exact ⟨r,hr⟩
 split
 ·exact hj _
 ·split
  ·exact hj _
  ·split
   ·split
    ·exact hj _
    ·exact hj _
   ·omega
theorem nameB_f (s:ByteArray) (hs:s.size≤1000000):∃ k,term_Name.f k s=some (nameB s):=by
 obtain ⟨k,r,h⟩:=name_total s hs
 cases r with
 | true=>exact ⟨k,by rw [h];unfold nameB;rw [if_pos ⟨k,h⟩]⟩
 | false =>
  refine ⟨k,?_⟩
  rw [h]
  unfold nameB
  rw [if_neg]
  rintro ⟨k2,h2⟩
  have e1:=more_rounds (g:=fun k=>term_Name.f k s) (fun k=>term_Name.mono s k) k k2 false h
  have e2:=more_rounds (g:=fun k=>term_Name.f k s) (fun k=>term_Name.mono s k) k2 k true h2
  rw [Nat.add_comm k2 k]at e2
  rw [e1]at e2
  cases e2
theorem nameB_calls (s:ByteArray) (w:World) (hs:s.size≤1000000):Calls Tryz.prog 75 #[.string s] w fun e w'=>e=.returned (.bool (nameB s))∧Below w.heap.size w w':=by
 obtain ⟨k,h⟩:=nameB_f s hs
 refine (term_Name.calls k s _ w h).mono ?_
 rintro e w' ⟨rfl,hd⟩
 exact ⟨rfl,hd.below⟩
set_option maxHeartbeats 3200000 in
set_option maxRecDepth 100000 in
theorem flaw_op {w:World} {cb:Nat} (n:Nd) (va:Value) (A:Option Addr) (c:Nat) (hva:va=.slice A n.args.length c) (h:arity n.op < 0∨(24≤n.op∧n.op≤26)∨(n.args.length:Int)≠arity n.op) :
  Calls Tryz.prog 78 #[.pointer (some ⟨cb,0,none⟩),.agg (n.cells va)] w (FlawPost w 4):=by
 subst hva
 have har:=fun w=>arity_calls n.op w
 have hpt:=fun w=>pattern_calls n.op w
 have HB:=Lib.hid ((below_alloc (Below.refl w.heap.size w) (.cells (n.cells (.slice A n.args.length c)) 56)))
 simp only [Nd.cells]at HB ⊢
 have HAR:=Lib.hid har
 have HPT:=Lib.hid hpt
 clear har hpt
 by_cases h1:arity n.op < 0
 ·clear h
  generalize arity n.op=ar at *
  go_enter Tryz.func78,Tryz.ntmps78
  go_wp2_with fail
  refine (HAR.out _).mono ?_
  rintro e w' ⟨rfl,rfl⟩
  go_wp2
  go_ret
  exact ⟨rfl,HB.out⟩
 ·by_cases h2:24≤n.op∧n.op≤26
  ·have hp:(decide (24≤n.op) && decide (n.op≤26))=true:=by simp [h2]
   rw [hp]at HPT
   clear h h2 hp
   generalize arity n.op=ar at *
   go_enter Tryz.func78,Tryz.ntmps78
   go_wp2_with fail
   refine (HAR.out _).mono ?_
   rintro e w' ⟨rfl,rfl⟩
   go_wp2_with fail
   refine (HPT.out _).mono ?_
   rintro e w' ⟨rfl,rfl⟩
   go_wp2
   go_ret
   exact ⟨rfl,HB.out⟩
  ·have h3:(n.args.length:Int)≠arity n.op:=by rcases h with h | h | h;exact absurd h h1;exact absurd h h2;exact h
   have hp:(decide (24≤n.op) && decide (n.op≤26))=false:=by simp;omega
   rw [hp]at HPT
   have h4:((n.args.length:Int) != arity n.op)=true:=by simpa using h3
   clear h h2 hp h3
   generalize arity n.op=ar at *
   go_enter Tryz.func78,Tryz.ntmps78
   go_wp2_with fail
   refine (HAR.out _).mono ?_
   rintro e w' ⟨rfl,rfl⟩
   go_wp2_with fail
   refine (HPT.out _).mono ?_
   rintro e w' ⟨rfl,rfl⟩
   go_wp2
   go_ret
   exact ⟨rfl,HB.out⟩
structure InFlaw (w wr:World) (o:Own) (cs:Array Value) (v:Value) (ws:List Int):Prop where
 fr:Fr (fun x=>0 < x) w (fun _=>0) wr o
 box:Blk wr o 0 w.heap.size cs 56
 row:Row (Kd.int .i64) 3 wr o 1 v ws
theorem InFlaw.below {w wr:World} {o:Own} {cs:Array Value} {v:Value} {ws:List Int} (h:InFlaw w wr o cs v ws):Below w.heap.size w wr:=h.fr.toBelow (Nat.le_refl _) (fun _ _ h=>Nat.lt_irrefl 0 h)
set_option maxHeartbeats 6400000 in
set_option maxRecDepth 100000 in
theorem flaw_rest {b cb:Nat} {w:World} {o:Own} {C:Cl} {S:St} (H:CoreAt b w o cb C S) (hS:Fine S) (n:Nd) (hn:n.Ok) (va:Value) (hA:Held w va n.args) (h1:¬ (arity n.op < 0∨(24≤n.op∧n.op≤26)∨(n.args.length:Int)≠arity n.op)) :
  Calls Tryz.prog 78 #[.pointer (some ⟨cb,0,none⟩),.agg (n.cells va)] w (FlawPost w (flawF S n)):=by
 obtain ⟨A,c,rfl,hlc,hC⟩:=hA
 have har:=fun w=>arity_calls n.op w
 have hpt:=fun w=>pattern_calls n.op w
 have HB:=Lib.hid ((below_alloc (Below.refl w.heap.size w) (.cells (n.cells (.slice A n.args.length c)) 56)))
 have hp:(decide (24≤n.op) && decide (n.op≤26))=false:=by simp;omega
 have hf:flawF S n=_:=if_neg h1
 have hlen:(n.args.length:Int)=arity n.op:=by omega
 have h0:¬ arity n.op < 0:=by omega
 rw [hp]at hpt
 rw [← hlen]at har h0
 have HAR:=Lib.hid har
 have HPT:=Lib.hid hpt
 have HLEN:=Lib.hid hlen
 have HF:=Lib.hid hf
 have HN:=Lib.hid hn
 have HS:=Lib.hid hS
 have HH:=Lib.hid H
 have HC:=Lib.hid hC
 have H1:=Lib.hid h1
 have hfew:=hn.few
 clear har hpt hlen hf hn hS H hC h1 hp
 simp only [Nd.cells]at HB ⊢
 go_enter Tryz.func78,Tryz.ntmps78
 go_upto_region 1 with fail
 go_cut [1,5] (fun _ s5 wx=>s5=.int .i64 n.args.length∧Hid (Below w.heap.size w wx)∧Hid (wx.heap[w.heap.size]?=some (.cells #[.int .i64 n.op,.int .i64 n.width,.int .u64 n.val,.string n.name,.slice A n.args.length c] 56 (0,0))))
 case first =>
  go_wp2_with fail
  refine (HAR.out _).mono ?_
  rintro e w' ⟨rfl,rfl⟩
  go_wp2_with fail
  go_meet
  exact ⟨rfl,HB.out,blk_new w _⟩
 obtain ⟨rfl,hb0,hx0⟩:=hcut
 have HB0:=Lib.hid hb0.out
 have HX0:=Lib.hid hx0.out
 have x0:wc.cell? ⟨w.heap.size,0,none⟩=some (.int .i64 n.op):=(blk_cell hx0.out 0).trans rfl
 have x1:wc.cell? ⟨w.heap.size,1,none⟩=some (.int .i64 n.width):=(blk_cell hx0.out 1).trans rfl
 have x2:wc.cell? ⟨w.heap.size,2,none⟩=some (.int .u64 n.val):=(blk_cell hx0.out 2).trans rfl
 have x3:wc.cell? ⟨w.heap.size,3,none⟩=some (.string n.name):=(blk_cell hx0.out 3).trans rfl
 have x4:wc.cell? ⟨w.heap.size,4,none⟩=some (.slice A n.args.length c):=(blk_cell hx0.out 4).trans rfl
 clear HB hb0 hx0 HAR
 go_wp2_with fail
 refine (HPT.out _).mono ?_
 rintro e w' ⟨rfl,rfl⟩
 clear HPT
 go_upto_region 4 with fail
 go_cut [52] (fun s wx=>s=.bool (bad2 n)∧wx=wc)
 case first =>
  go_wp2_with fail
  all_goals
   go_meet
   exact ⟨by first | (simp [bad2, *];done) | (refine congrArg Value.bool ?_;rw [Bool.eq_iff_iff];simp [bad2, *];done) | (refine congrArg Value.bool ?_;rw [Bool.eq_iff_iff];simp [bad2, *];omega),rfl⟩
 case rest =>
  obtain ⟨rfl,rfl⟩:=hcut
  cases h2:bad2 n with
  | true =>
   have HBAD:=Lib.hid h2
   clear h2
   go_wp2
   go_ret
   refine ⟨?_,HB0.out⟩
   rw [HF.out,if_pos HBAD.out]
   rfl
  | false =>
   have hf2:=HF.out
   rw [if_neg (by rw [h2];simp)]at hf2
   have HF2:=Lib.hid hf2
   clear hf2 HF h2
   go_upto_region 6 with fail
   go_cut [61] (fun s wx=>s=.bool (bad3 n)∧Hid (Below wc.heap.size wc wx))
   case first =>
    by_cases hop:n.op=1
    ·have hnm:=nameB_calls n.name wc HN.out.name
     have HOP:=Lib.hid hop
     rw [hop]at x0
     clear hop
     go_wp2_with fail
     refine hnm.mono ?_
     rintro e w' ⟨rfl,hb⟩
     have HB2:=Lib.hid hb
     clear hb hnm
     go_wp2_with fail
     go_meet
     exact ⟨by simp [bad3,HOP.out],HB2.out⟩
    ·go_wp2_with fail
     go_meet
     exact ⟨by simp [bad3,hop],Below.refl _ _⟩
   obtain ⟨rfl,hb2⟩:=hcut
   have HB2:=Lib.hid (HB0.out.trans (hb2.out.mono HB0.out.size))
   have HX2:=Lib.hid (blk_below HX0.out hb2.out)
   clear x0 x1 x2 x3 x4 hb2 HB0 HX0
   cases h3:bad3 n with
   | true =>
    have HBAD:=Lib.hid h3
    clear h3
    go_wp2
    go_ret
    refine ⟨?_,HB2.out⟩
    rw [HF2.out,if_pos HBAD.out]
    rfl
   | false =>
    have hf3:=HF2.out
    rw [if_neg (by rw [h3];simp)]at hf3
    have HF3:=Lib.hid hf3
    clear hf3 HF2 h3
    have x4:wc.cell? ⟨w.heap.size,4,none⟩=some (.slice A n.args.length c):=(blk_cell HX2.out 4).trans rfl
    obtain ⟨i0,hi,hz⟩:=Option.map_eq_some_iff.1 inf3
    simp only [Prod.mk.injEq]at hz
    obtain ⟨hz0,hz1,hz2⟩:=hz
    obtain ⟨w2,hmk,ho2,hg2⟩:=run_make_own (P:=Tryz.prog) wc 0 26 3 i0 (.int .i64 0) 1 Tryz.underlying26 hi hz0 hz1 .i64 .i64 n.args.length (by rw [hz2];omega) (by have:maxLen=9223372036854775807:=rfl;omega) (Nat.zero_le _)
    have hb3:=(Below.refl wc.heap.size wc).grown hg2 (Nat.le_refl _) (fun k h=>by cases h)
    have y4:w2.cell? ⟨w.heap.size,4,none⟩=some (.slice A n.args.length c):=(blk_cell (blk_below HX2.out hb3) 4).trans rfl
    have F2:=Lib.hid (show Fr (fun x=>0 < x) w (fun _=>0) w2 _ from ((Fr.of_below (M:=fun x=>0 < x) HB2.out 0 (.inl rfl)).renew 1 (.inr (by omega))).grown hg2 (fun k h=>by cases h))
    have HI0:=Lib.hid (show InFlaw w w2 _ #[.int .i64 n.op,.int .i64 n.width,.int .u64 n.val,.string n.name,.slice A n.args.length c] (.slice (some ⟨wc.heap.size,0,none⟩) 0 n.args.length) []from
     ⟨F2.out,⟨blk_below HX2.out hb3,by rw [Own.from_lt (blk_lt HX2.out),Own.from_ge (Nat.le_refl _)]⟩,Kd.R_of_own (h1:=fun _=>rfl) ho2 (fun k hk=>by have:=ob_eq hk;subst this;exact Own.from_ge (Nat.le_refl _))⟩)
    have HMK:=Lib.hid hmk
    clear hi hz0 hz1 hz2 ho2 hg2 hb3 F2 HB2 HX2
    have hSns:S.ns.length≤600:=HS.out.few
    obtain ⟨An,cn,hvn⟩:=HH.out.nodes.slice
    have HC1:=Lib.hid (show w.cell? ⟨cb,1,none⟩=some (.slice An S.ns.length cn) by rw [← hvn];exact HH.out.at1)
    have HVN:=Lib.hid hvn
    clear hvn
    go_wp2_with fail
    go_loopw [6,69] (fun v6 s69 wr=>∃ (k:Nat) (A6:Option Addr) (c6:Nat),k≤n.args.length∧v6=.slice A6 k c6∧s69=.int .i64 k∧Hid (∃ or,InFlaw w wr or #[.int .i64 n.op,.int .i64 n.width,.int .u64 n.val,.string n.name,.slice A n.args.length c] (.slice A6 k c6) ((n.args.take k).map (argW S)))∧Hid ((n.args.take k).all (fun a=>decide (0≤a) && decide (a < S.ns.length))=true)) (fun _ s69 _=>n.args.length - (intOf s69).toNat)
    case atStart=>exact ⟨0,_,_,Nat.zero_le _,rfl,rfl,⟨_,HI0.out⟩,rfl⟩
    case round =>
     obtain ⟨k,A6,c6,hk,rfl,rfl,⟨or,hI⟩,hall⟩:=hrel
     have HI:=Lib.hid hI
     have HALL:=Lib.hid hall
     clear hI hall HI0 y4 HMK hmk x4
     by_cases hlt:k < n.args.length
     ·obtain ⟨ad,rfl,hc0⟩:=C_int_at HC.out k hlt
      have hbl:=HI.out.below
      have hc1:wr.cell? (ad.add k)=some (.int .i64 (n.args.getD k 0)):=(hbl.cell (World.block_lt_of_cell? w _ hc0)).trans hc0
      have d1:=pw_cell_below hbl HC1.out
      have hmem:n.args.getD k 0∈n.args:=by rw [List.getD_eq_getElem?_getD,List.getElem?_eq_getElem hlt];exact List.getElem_mem hlt
      have HTK:=Lib.hid (show n.args.take (k+1)=n.args.take k++[n.args.getD k 0] by
       rw [List.take_succ_eq_append_getElem hlt]
       simp [List.getD_eq_getElem?_getD,List.getElem?_eq_getElem hlt])
      have HMEM:=Lib.hid hmem
      have HC0:=Lib.hid hc0
      clear hc0 hmem hbl
      generalize n.args.getD k 0=a at *
      have hbad:(0≤a∧a < S.ns.length)∨argsIn S n=false:=by
       by_cases h:0≤a∧a < S.ns.length
       ·exact .inl h
       ·right
        unfold argsIn
        rw [List.all_eq_false]
        exact ⟨a,HMEM.out,by simp;omega⟩
      by_cases hin:0≤a∧a < S.ns.length
      ·obtain ⟨hin0,hin1⟩:=hin
       clear hbad
       have hHr:=HH.out.below HI.out.below
       obtain ⟨bn,va,nd,hAn,hgn,hgd,_,a0,a1,_,_,_,_,_⟩:=NodesRow.at (show NodesRow wr _ (b+5) (.slice An S.ns.length cn) S.ns from HVN.out ▸ hHr.nodes) a hin0 hin1
       subst hAn
       have HW:=Lib.hid (show argW S a=nd.width by unfold argW;rw [show zNd=⟨0,0,0,⟨#[]⟩,[]⟩from rfl,hgd])
       have hwl:(List.map (argW S) (List.take k n.args)).length=k:=by simp;omega
       have HWL:=Lib.hid hwl
       clear hHr hgn hgd a0 hwl
       go_wp2_with ((with_reducible refine gate_builtin (b:=.append) (xs:=#[.tmp 84,.tmp 93]) rfl ?_);at_builtin;refine row_append (Kd.int .i64) HI.out.fr 1 (by omega) rfl (.tmp 84) (.tmp 93) 26 3 (.int .i64 0) 8 rfl Tryz.underlying26 inf3 rfl (by decide) (by omega) (.slice A6 k c6) _ nd.width [.int .i64 nd.width] rfl rfl ?aP HI.out.row ?aL ?_;(case aP=>exact rfl);(case aL=>rw [HWL.out];omega);intro A7 c7 w7 h7 f7 k7;rw [HWL.out]at h7;have H7:=Lib.hid h7;have F7:=Lib.hid f7;have K7:=Lib.hid k7;clear h7 f7 k7)
       go_roundw
       case rel=>exact ⟨k+1,A7,c7,by omega,rfl,by go_num,⟨_,F7.out,HI.out.box.fr K7.out (by omega),by rw [HTK.out,List.map_append,List.map_cons,List.map_nil,HW.out];exact H7.out⟩,by show _=true;rw [HTK.out,List.all_append];simp only [Bool.and_eq_true];exact ⟨HALL.out,by simp;omega⟩⟩
       case measure=>first | (simp [intOf];done) | (simp [intOf];omega)
      ·have hfa:argsIn S n=false:=by rcases hbad with h | h;exact absurd h hin;exact h
       have hff:=HF3.out
       rw [if_pos hfa]at hff
       have HFF:=Lib.hid hff
       clear hff hfa hbad
       by_cases hneg:a < 0
       ·clear hin
        go_wp2
        go_ret
        exact ⟨by rw [HFF.out];rfl,HI.out.below⟩
       ·have hge:(S.ns.length:Int)≤a:=by omega
        have h0a:0≤a:=by omega
        clear hin hneg
        go_wp2
        go_ret
        exact ⟨by rw [HFF.out];rfl,HI.out.below⟩
     ·have hkl:k=n.args.length:=by omega
      subst hkl
      rw [List.take_length]at HI HALL
      have hff:=HF3.out
      rw [if_neg (by rw [show argsIn S n=true from HALL.out];simp)]at hff
      have HF4:=Lib.hid hff
      have hop:1≤n.op∧n.op≤23:=by
       have h:=H1.out
       unfold arity at h
       split at h <;> omega
      have hwd:=width_calls n.op n.width n.val (n.args.map (argW S)) (.slice A6 n.args.length c6) wr hop (by rw [List.length_map];exact HLEN.out) (by
       obtain ⟨A',c',e,h1,h2⟩:=Kd.R_reads HI.out.row
       rw [List.length_map]at e
       exact ⟨A',c',by rw [List.length_map];exact e,h1,h2⟩)
      have b0:wr.cell? ⟨w.heap.size,0,none⟩=some (.int .i64 n.op):=(blk_cell HI.out.box.1 0).trans rfl
      have b1:wr.cell? ⟨w.heap.size,1,none⟩=some (.int .i64 n.width):=(blk_cell HI.out.box.1 1).trans rfl
      have b2:wr.cell? ⟨w.heap.size,2,none⟩=some (.int .u64 n.val):=(blk_cell HI.out.box.1 2).trans rfl
      have HWD:=Lib.hid hwd
      clear hff hwd HF3 hk hop
      have hb5:bad5 S n=(decide (n.width < 1) || !decide ((opWidth n.op n.width n.val (n.args.map (argW S))).2=0) || !decide ((opWidth n.op n.width n.val (n.args.map (argW S))).1=n.width)):=rfl
      have HB5:=Lib.hid hb5
      clear hb5
      generalize opWidth n.op n.width n.val (n.args.map (argW S))=ow at *
      obtain ⟨ow1,ow2⟩:=ow
      simp only at HWD HB5
      go_wp2_with fail
      refine HWD.out.mono ?_
      rintro e w8 ⟨rfl,hb8⟩
      have HB8:=Lib.hid (HI.out.below.trans (hb8.mono HI.out.below.size))
      have HX8:=Lib.hid (blk_below HI.out.box.1 hb8)
      clear b0 b1 b2 hb8 HWD HI HALL
      have b1:w8.cell? ⟨w.heap.size,1,none⟩=some (.int .i64 n.width):=(blk_cell HX8.out 1).trans rfl
      go_upto_region 17 with fail
      go_cut [9,10,119] (fun s9 s10 s wx=>s=.bool (bad5 S n)∧wx=w8)
      case first =>
       go_wp2_with fail
       all_goals
        go_meet
        rw [HB5.out]
        exact ⟨by first | (simp [*];done) | (refine congrArg Value.bool ?_;rw [Bool.eq_iff_iff];simp [*];done) | (refine congrArg Value.bool ?_;rw [Bool.eq_iff_iff];simp [*];omega),rfl⟩
      obtain ⟨rfl,rfl⟩:=hcut
      cases h5:bad5 S n with
      | true =>
       have HBAD:=Lib.hid h5
       clear h5
       go_wp2
       go_ret
       refine ⟨?_,HB8.out⟩
       rw [HF4.out,if_pos HBAD.out]
       rfl
      | false =>
       have hff:=HF4.out
       rw [if_neg (by rw [h5];simp)]at hff
       have HF5:=Lib.hid hff
       clear hff h5 HF4 HB5
       have hHr:=HH.out.below HB8.out
       have c7:=hHr.at7
       have b0:wc.cell? ⟨w.heap.size,0,none⟩=some (.int .i64 n.op):=(blk_cell HX8.out 0).trans rfl
       have b3:wc.cell? ⟨w.heap.size,3,none⟩=some (.string n.name):=(blk_cell HX8.out 3).trans rfl
       have hlk0:=GMap.look (Go.Maps.string_keyed Tryz.underlying9) Tryz.underlying62 zero3 ⟨0,rfl,by unfold I64;omega⟩ (Go.WideMaps.keyOf_string_mk Tryz.underlying9 (by have:=HN.out.name;have:maxLen=9223372036854775807:=rfl;omega:n.name.size≤maxLen)) hHr.vars
       obtain ⟨⟨old,hov,hoi⟩,hlk1⟩:=hlk0
       have hcl:clash S n=((S.vs (lits_ n.name)).isSome && decide (old≠n.width)):=by
        unfold clash
        cases hv:S.vs (lits_ n.name)with
        | none=>rfl
        | some v =>
         have e:v=.int .i64 old:=by
          have h:=hov
          have hk:(Lit.string n.name.data.toList)=lits_ n.name:=rfl
          rw [hk,hv]at h
          exact h
         simp [e,intOf]
       have hlk:∀ m,(Instr.lookup 62 (.map (some C.mv)) (.string n.name) true).run Tryz.prog (wc.drewN m)=.ok (.tuple #[.int .i64 old,.bool (S.vs (lits_ n.name)).isSome]) (wc.drewN m):=fun m=>by
        have h:=(hlk1 (wc.drewN m) rfl).1
        have hk:(Lit.string n.name.data.toList)=lits_ n.name:=rfl
        rw [hk]at hov h
        rw [hov]at h
        exact h
       have HCL:=Lib.hid hcl
       clear hlk1 hov hoi hcl hHr HH
       generalize (S.vs (lits_ n.name)).isSome=is at *
       go_upto_region 19 with fail
       go_quiet (fail)
       have HB9:=Lib.hid (pw_below_drewN HB8.out nq)
       have b0q:(wc.drewN nq).cell? ⟨w.heap.size,0,none⟩=some (.int .i64 n.op):=b0
       have b1q:(wc.drewN nq).cell? ⟨w.heap.size,1,none⟩=some (.int .i64 n.width):=b1
       clear hlk b0 b1 b3 c7 HB8 HX8
       generalize wc.drewN nq=wq at *
       go_upto_region 20 with fail
       go_cut [11,12,141] (fun s11 s12 s wx=>s=.bool (bad6 S n)∧wx=wq)
       case first =>
        have hb6:bad6 S n=(decide (n.op=1) && (is && decide (old≠n.width))):=by unfold bad6;rw [HCL.out]
        have HB6:=Lib.hid hb6
        clear hb6
        go_wp2_with fail
        all_goals
         go_meet
         rw [HB6.out]
         exact ⟨by first | (simp [*];done) | (refine congrArg Value.bool ?_;rw [Bool.eq_iff_iff];simp [*];done) | (refine congrArg Value.bool ?_;rw [Bool.eq_iff_iff];simp [*];omega),rfl⟩
       obtain ⟨rfl,rfl⟩:=hcut
       cases h6:bad6 S n with
       | true =>
        have HBAD:=Lib.hid h6
        clear h6
        go_wp2
        go_ret
        refine ⟨?_,HB9.out⟩
        rw [HF5.out,if_pos HBAD.out]
        rfl
       | false =>
        have hff:=HF5.out
        rw [if_neg (by rw [h6];simp)]at hff
        have HF6:=Lib.hid hff
        clear hff h6 HF5
        go_wp2
        go_ret
        refine ⟨?_,HB9.out⟩
        rw [HF6.out]
        rfl
theorem flaw_calls {b cb:Nat} {w:World} {o:Own} {C:Cl} {S:St} (H:CoreAt b w o cb C S) (hS:Fine S) (n:Nd) (hn:n.Ok) (va:Value) (hA:Held w va n.args) :
  Calls Tryz.prog 78 #[.pointer (some ⟨cb,0,none⟩),.agg (n.cells va)] w (FlawPost w (flawF S n)):=by
 by_cases h1:arity n.op < 0∨(24≤n.op∧n.op≤26)∨(n.args.length:Int)≠arity n.op
 ·obtain ⟨A,c,e,_⟩:=hA
  have hf:flawF S n=4:=if_pos h1
  rw [hf]
  exact flaw_op n va A c e h1
 ·exact flaw_rest H hS n hn va hA h1
end Go.Proofs.YtjckhhecnebmmaaGreatDoor.TU
end
section
namespace Go.Proofs.YtjckhhecnebmmaaGreatDoor.TU
open Go.RowKit Go.Proofs.YtjckhhecnebmmaaGreatDoorW.PrintWords Go.Proofs.YtjckhhecnebmmaaGreatDoorW.PrintLast Go.Proofs.YtjckhhecnebmmaaGreatDoorW.PrintMore Go.Proofs.YtjckhhecnebmmaaGreatDoor.QAll
attribute [local go_sem] max2_int min2_int max_two min_two max_three min_three max_four min_four
set_option linter.unusedVariables false
def reps (S:St):List Int→St × Int
 | []=>(S,0)
 | x :: l=>let r:=repairS S x;let q:=reps r.1 l;(q.1,r.2+q.2)
def popS (S:St):St:={ S with todo:=S.todo.dropLast }
def lastS (S:St):Int:=S.todo.getLastD 0
def rebN:Nat→St→St × Int
 | 0,S=>(S,0)
 | n+1,S=>if S.todo=[]then (S,0)else let r:=reps (popS S) (par (popS S) (lastS S));let q:=rebN n r.1;(q.1,r.2+q.2)
def RepsOk (S:St):List Int→Prop
 | []=>Fine S
 | x :: l=>Fine S∧0≤x∧x < S.ns.length∧RepsOk (repairS S x).1 l
def RebOk:Nat→St→Prop
 | 0,S=>Fine S∧S.todo=[]
 | n+1,S=>Fine S∧(S.todo=[]∨(S.todo≠[]∧RepsOk (popS S) (par (popS S) (lastS S))∧RebOk n (reps (popS S) (par (popS S) (lastS S))).1))
def withL (S:St) (L:List S117):St:={ S with L:=L }
theorem Fine.withL {S:St} (h:Fine S) {L:List S117} (hL:L.length≤800):Fine (withL S L):={ h with hL:=hL }
theorem rekeyS_withL (S:St) (L:List S117) (x:Int):rekeyS (withL S L) x=withL (rekeyS S x) L:=by
 unfold rekeyS
 show (if sameB (keyOfS S x) (S.ks.getD x.toNat zNd)=true then _ else _)=_
 split <;> rfl
theorem repairS_withL (S:St) (L:List S117) (x:Int):repairS (withL S L) x=(withL (repairS S x).1 L,(repairS S x).2):=by
 unfold repairS
 rw [rekeyS_withL]
 show (match (rekeyS S x).tab (keyStr (keyOfS S x))with | none=>_ | some y=>_)=_
 cases (rekeyS S x).tab (keyStr (keyOfS S x))with
 | none=>rfl
 | some y =>
  show (if fnd S.p y=fnd S.p x then _ else _)=_
  simp only
  split <;> rfl
theorem repairS_joins (S:St) (x:Int):(repairS S x).2=0∨(repairS S x).2=1:=by
 unfold repairS
 split
 ·exact .inl rfl
 ·split
  ·exact .inl rfl
  ·exact .inr rfl
theorem reps_joins:∀ (l:List Int) (S:St),0≤(reps S l).2:=by
 intro l
 induction l with
 | nil=>intro S;exact Int.le_refl _
 | cons x l ih =>
  intro S
  show 0≤(repairS S x).2+(reps (repairS S x).1 l).2
  have:=ih (repairS S x).1
  rcases repairS_joins S x with h | h <;> omega
theorem rebN_joins:∀ (n:Nat) (S:St),0≤(rebN n S).2:=by
 intro n
 induction n with
 | zero=>intro S;exact Int.le_refl _
 | succ n ih =>
  intro S
  unfold rebN
  split
  ·exact Int.le_refl _
  ·have h1:=ih (reps (popS S) (par (popS S) (lastS S))).1
   have h2:=reps_joins (par (popS S) (lastS S)) (popS S)
   show 0≤_+_
   omega
theorem rebN_done {n:Nat} {S:St} (h:S.todo=[]):rebN n S=(S,0):=by
 cases n with
 | zero=>rfl
 | succ n=>unfold rebN;rw [if_pos h]
theorem RebOk.fine {n:Nat} {S:St} (h:RebOk n S):Fine S:=by
 cases n with
 | zero=>exact h.1
 | succ n=>exact h.1
theorem RepsOk.fine {S:St} {l:List Int} (h:RepsOk S l):Fine S:=by
 cases l with
 | nil=>exact h
 | cons x l=>exact h.1
theorem foldU_length:∀ (l out:List Int),(l.foldl addU out).length≤out.length+l.length:=by
 intro l
 induction l with
 | nil=>intro out;simp
 | cons a l ih =>
  intro out
  have h1:=ih (addU out a)
  have h2:(addU out a).length≤out.length+1:=by unfold addU;split <;> simp
  simp only [List.foldl_cons,List.length_cons]
  omega
theorem flat_length (us:List (List Int)) (h:∀ u∈us,u.length≤600):∀ (ms:List Int),(ms.flatMap fun m=>us.getD m.toNat []).length≤600 * ms.length:=by
 intro ms
 induction ms with
 | nil=>simp
 | cons m ms ih =>
  have h1:(us.getD m.toNat []).length≤600:=by
   rw [List.getD_eq_getElem?_getD]
   cases he:us[m.toNat]? with
   | none=>simp
   | some u=>exact h u (List.mem_of_getElem? he)
  simp only [List.flatMap_cons,List.length_append,List.length_cons]
  omega
theorem par_length {S:St} (h:Fine S) (id:Int):(par S id).length≤360000:=by
 unfold par parRaw
 rw [sortL_length]
 have h1:=foldU_length ((mem S.p id).flatMap fun m=>S.us.getD m.toNat []) []
 have h2:=flat_length S.us h.ul (mem S.p id)
 have h3:=mem_length (p:=S.p) (x:=id)
 have h4:=h.hp
 have h5:=h.few
 simp only [List.length_nil]at h1
 omega
def rebS (n:Nat) (S:St):St × Int:=({ (rebN n S).1 with dirty:=false },(rebN n S).2)
def RebPost (b g:Nat) (w:World) (o:Own) (j:Int) (S':St) (k:Nat) (e:Ending) (w':World):Prop:=∃ o' L',e=.returned (.int .i64 j)∧GraphAt b w' o' g (withL S' L')∧L'.length≤k∧Fr (GraphM b) w o w' o'
theorem Gl.on2 {B:Nat} {w w':World} {o:Own} (h:Gl B w o) (hb:Below B w w'):Gl B w' o:=⟨h.tab.on hb,Nat.le_trans h.le hb.size,h.own⟩
def InReps (B b g cb:Nat) (w wr:World) (o:Own) (T:St) (k:Nat) (v:Value) (l:List Int):Prop:=∃ o1 C L,Blk wr o1 b g #[.pointer (some ⟨cb,0,none⟩)] 68∧CoreAt b wr o1 cb C (withL T L)∧L.length≤k∧Fr (GraphM b) w o wr o1∧Gl B wr o1∧Row (Kd.int .i64) 3 wr o1 0 v l
def InReb (B b g cb:Nat) (w wr:World) (o:Own) (T:St) (k:Nat):Prop:=∃ o1 C L,Blk wr o1 b g #[.pointer (some ⟨cb,0,none⟩)] 68∧CoreAt b wr o1 cb C (withL T L)∧L.length≤k∧Fr (GraphM b) w o wr o1∧Gl B wr o1
theorem coreM_fr {b:Nat} {w w':World} {o o':Own} (f:Fr (CoreM b) w o w' o'):Fr (GraphM b) w o w' o':=f.mono (fun _ h=>coreM_graph h)
set_option maxHeartbeats 6400000 in
set_option maxRecDepth 20000 in
theorem rebuild_calls {B b g:Nat} {w:World} {o:Own} {S:St} (G:Gl B w o) (H:GraphAt b w o g S) (hb0:0 < b) (n:Nat) (hok:RebOk n S) (hj:(S.L.length:Int)+(rebN n S).2≤800) :
  Calls Tryz.prog 23 #[.pointer (some ⟨g,0,none⟩)] w (RebPost b g w o (rebS n S).2 (rebS n S).1 (S.L.length+(rebN n S).2.toNat)):=by
 obtain ⟨cb,C,h1,h2⟩:=H
 have c0:w.cell? ⟨g,0,none⟩=some (.pointer (some ⟨cb,0,none⟩)):=(blk_cell h1.1 0).trans rfl
 have HI0:=Lib.hid (show InReb B b g cb w w o S S.L.length from ⟨_,C,S.L,h1.fr ((Kp.refl (fun _=>False) w o).renew 0) id,h2.fr ((Kp.refl (fun _=>False) w o).renew 0) (fun _ _ h=>h) id,Nat.le_refl _,Fr.start (GraphM b) w o 0 (.inl rfl),G.on (Below.refl _ _)⟩)
 have HOK:=Lib.hid hok
 have HJ:=Lib.hid hj
 have HB0:=Lib.hid hb0
 have hrs:(rebS n S).2=(rebN n S).2:=rfl
 have hrs1:(rebS n S).1={ (rebN n S).1 with dirty:=false }:=rfl
 have hjt:=rebN_joins n S
 have HRS:=Lib.hid (And.intro hrs hrs1)
 clear h1 h2 hok hj hb0 hrs hrs1 hjt
 go_enter Tryz.func23,Tryz.ntmps23
 go_wp2_with fail
 refine (gmade_calls c0).mono ?_
 rintro e w' ⟨rfl,rfl⟩
 go_wp2_with fail
 go_loopg [4] n (fun kq s4 wr=>∃ (T:St) (j:Int),s4=.int .i64 j∧Hid (InReb B b g cb w wr o T (S.L.length+j.toNat))∧Hid (RebOk kq T)∧Hid (rebN n S=((rebN kq T).1,j+(rebN kq T).2))∧0≤j∧j≤1000)
 case atStart=>exact ⟨S,0,rfl,HI0.out,HOK.out,by simp [Hid],by omega,by omega⟩
 case round =>
  obtain ⟨T,j,rfl,hI,hok,hre,hj0,hj1⟩:=hrel
  obtain ⟨o1,C1,L1,g1,H1,hL1,F1,G1⟩:=hI
  obtain ⟨sg,vn,vk,vu,eg,tg,fg,mv,vt,vm⟩:=C1
  obtain ⟨A8,k8,hv8⟩:=H1.todo.slice
  simp only at hv8
  subst hv8
  have d8:wr.cell? ⟨cb,8,none⟩=some (.slice A8 T.todo.length k8):=H1.at8
  have d9:wr.cell? ⟨cb,9,none⟩=some (.bool T.dirty):=H1.at9
  have z8:=blk_frozen H1.blk.1 8
  have z9:=blk_frozen H1.blk.1 9
  have htd:Row (Kd.int .i64) 3 wr o1 (b+19) (.slice A8 T.todo.length k8) T.todo:=H1.todo
  have HG1:=Lib.hid g1
  have HH1:=Lib.hid H1
  have HL1:=Lib.hid hL1
  have HF1:=Lib.hid F1
  have HGL:=Lib.hid G1
  have HRE:=Lib.hid hre
  clear g1 H1 hL1 F1 G1 hre HI0
  rcases List.eq_nil_or_concat T.todo with hnil | ⟨ts,y,hts⟩
  ·have hdn:=rebN_done (n:=gk) hnil
   have hlen:T.todo.length=0:=by rw [hnil];rfl
   rw [hlen]at d8
   have HD:=Lib.hid hdn
   clear hdn hlen hnil htd hok
   go_wp2
   go_ret
   have hfin:=HRE.out
   rw [HD.out]at hfin
   have hj2:(rebN n S).2=j:=by rw [hfin];simp
   have hS2:(rebN n S).1=T:=by rw [hfin]
   rw [HRS.out.1,HRS.out.2,hj2,hS2]
   have hgc:g≠cb:=fun e=>by have h1:=HG1.out.2;have h2:=HH1.out.blk.2;rw [e]at h1;omega
   have hcm:GraphM b (o1 cb):=by rw [HH1.out.blk.2];unfold GraphM;omega
   refine ⟨o1,L1,rfl,⟨cb,_,?_,HH1.out.onDirty false⟩,HL1.out,HF1.out.setCell _ _ (.inl hcm)⟩
   exact HG1.out.fr ((Kp.refl (·=b+1) wr o1).setCell ⟨cb,9,none⟩ _ (.inl HH1.out.blk.2)) (by omega)
  ·rw [List.concat_eq_append]at hts
   have hlen:T.todo.length=ts.length+1:=by rw [hts];simp
   have hne:T.todo≠[]:=by rw [hts];simp
   cases gk with
   | zero=>exact absurd hok.2 hne
   | succ k1 =>
    obtain ⟨hF,hok2⟩:=hok
    obtain ⟨_,hreps,hok3⟩:T.todo≠[]∧RepsOk (popS T) (par (popS T) (lastS T))∧RebOk k1 (reps (popS T) (par (popS T) (lastS T))).1:=by
     rcases hok2 with h | h
     ·exact absurd h hne
     ·exact h
    have hly:lastS T=y:=by unfold lastS;rw [hts];simp [List.getLastD_eq_getLast?]
    have hpt:(popS T).todo=ts:=by unfold popS;rw [hts];simp
    rw [hly]at hreps hok3
    have hrb:rebN (k1+1) T=((rebN k1 (reps (popS T) (par (popS T) y)).1).1,(reps (popS T) (par (popS T) y)).2+(rebN k1 (reps (popS T) (par (popS T) y)).1).2):=by
     show (if T.todo=[]then _ else _)=_
     rw [if_neg hne,hly]
    have htl:=hF.todo
    obtain ⟨bt,ct,he,_,hbl,_⟩:=Kd.R_form htd (by omega)
    injection he with he1 he2 he3
    subst he1
    have hcap:=(Kd.R_reads' htd).2.1
    obtain ⟨hcy,_⟩:=Kd.R_celln 0 htd (ts.length:Int) (by omega) (by omega)
    have e0:rdOf (0:Int) T.todo (ts.length:Int)=y:=by unfold rdOf;rw [hts,Int.toNat_natCast];simp
    rw [e0,Int.toNat_natCast]at hcy
    rw [hlen]at d8 hcap htl
    have HROW:=Lib.hid (show Row (Kd.int .i64) 3 wr o1 (b+19) (.slice (some ⟨bt,0,none⟩) ts.length k8) ts by
     have h:=Row.take htd (m:=ts.length) (by omega)
     rw [hts,List.take_left' rfl]at h
     exact h)
    have HREPS:=Lib.hid hreps
    have HOK3:=Lib.hid hok3
    have HRB:=Lib.hid hrb
    have HPT:=Lib.hid hpt
    have HFT:=Lib.hid hF
    clear hts hlen hne hF hok2 hreps hok3 hly hpt hrb htd he2 he3 e0
    go_upto_region 6 with fail
    have hw64:IntKind.i64.wrap (ts.length:Int)=ts.length:=IntWalk.i64_in _ (by omega)
    have hw0:(0:Int)≤ts.length:=by omega
    have hw1:(ts.length:Int) < ts.length+1:=by omega
    have hw2:(ts.length:Int)≤k8:=by omega
    go_quiet (fail)
    obtain ⟨wq,hwq⟩:∃ x,x=wr.drewN nq:=⟨_,rfl⟩
    have HHq:=Lib.hid (show CoreAt b wq o1 cb _ _ from hwq ▸ HH1.out.drewN nq)
    have HGq:=Lib.hid (show Blk wq o1 b g #[.pointer (some ⟨cb,0,none⟩)] 68 from hwq ▸ HG1.out.fr ((Kp.refl (fun _=>False) wr o1).drewN nq) id)
    have HFq:=Lib.hid (show Fr (GraphM b) w o wq o1 from hwq ▸ HF1.out.drewN nq)
    have HGLq:=Lib.hid (show Gl B wq o1 from hwq ▸ HGL.out.on2 (pw_below_drewN (Below.refl _ _) nq))
    have HRq:=Lib.hid (show Row (Kd.int .i64) 3 wq o1 (b+19) (.slice (some ⟨bt,0,none⟩) ts.length k8) ts from hwq ▸ HROW.out.fr ((Kp.refl (fun _=>False) wr o1).drewN nq) id)
    rw [← hwq]
    have d8q:wq.cell? ⟨cb,8,none⟩=some (.slice (some ⟨bt,0,none⟩) (ts.length+1) k8):=by rw [hwq];exact d8
    have z8q:wq.frozen? ⟨cb,8,none⟩=false:=by rw [hwq];exact z8
    clear hwq d8 z8 d9 z9 hcy HH1 HG1 HF1 HGL HROW
    go_upto_region 7 with fail
    go_still_tail 14,(by kernel_rfl)
    change wpList _ _ _ _ _ wq.drew
    go_wp2_with fail
    have hT1:({ withL T L1 with todo:=ts }:St)=withL (popS T) L1:=by rw [← HPT.out];rfl
    have H5:=HHq.out.onTodo ((Kp.refl (·=b+19) wq o1)) HRq.out
    rw [hT1]at H5
    have hm9:GraphM b (o1 cb):=by rw [HHq.out.blk.2];unfold GraphM;omega
    have HH5:=Lib.hid H5.drew
    have F5:=Lib.hid (HFq.out.setCell ⟨cb,8,none⟩ (.slice (some ⟨bt,0,none⟩) ts.length k8) (.inl hm9)).drew
    have G5:=Lib.hid (show Gl B (wq.setCell ⟨cb,8,none⟩ (.slice (some ⟨bt,0,none⟩) ts.length k8)).drew o1 from HGLq.out.on2 ((Below.refl B wq).setCell (p:=⟨cb,8,none⟩) (by
     rcases Nat.lt_or_ge cb B with h | h
     ·have:=HGLq.out.own cb h;have:=HHq.out.blk.2;omega
     ·exact h) _).drew)
    have B5:=Lib.hid (show Blk (wq.setCell ⟨cb,8,none⟩ (.slice (some ⟨bt,0,none⟩) ts.length k8)).drew o1 b g #[.pointer (some ⟨cb,0,none⟩)] 68 from HGq.out.fr ((Kp.refl (·=b+1) wq o1).setCell ⟨cb,8,none⟩ _ (.inl HHq.out.blk.2)).drew (by omega))
    clear hT1 H5 hm9 d8q z8q HHq HFq HGLq HRq HGq
    generalize (wq.setCell ⟨cb,8,none⟩ (.slice (some ⟨bt,0,none⟩) ts.length k8)).drew=w5 at *
    have hjj:=HJ.out
    have hre1:=HRE.out
    rw [HRB.out]at hre1
    have hn1:=reps_joins (par (popS T) y) (popS T)
    have hn2:=rebN_joins k1 (reps (popS T) (par (popS T) y)).1
    have hj2:(rebN n S).2=j+((reps (popS T) (par (popS T) y)).2+(rebN k1 (reps (popS T) (par (popS T) y)).1).2):=by rw [hre1]
    have hL8:L1.length≤800:=by have:=HL1.out;omega
    have hjb:j+(reps (popS T) (par (popS T) y)).2≤800:=by omega
    have hp:=parents_calls HH5.out (HREPS.out.fine.withL hL8) y
    rw [show par (withL (popS T) L1) y=par (popS T) y from rfl]at hp
    have hll:=par_length HREPS.out.fine y
    have HPAR:=Lib.hid hp
    have HTOT:=Lib.hid (show (S.L.length:Int)+(j+(reps (popS T) (par (popS T) y)).2)≤800 by omega)
    have HJB:=Lib.hid hjb
    clear hjj hre1 hn1 hn2 hj2 hL8 hp hjb
    generalize hT1:popS T=T1 at *
    generalize par T1 y=l at *
    clear hT1
    refine HPAR.out.mono ?_
    rintro e w6 ⟨v6,rfl,hr6,hb6⟩
    obtain ⟨A6,k6,rfl⟩:=Kd.R_slice hr6
    have HI6:=Lib.hid (show InReps B b g cb w w6 o T1 (S.L.length+j.toNat) (.slice A6 l.length k6) l from
     ⟨o1.from_ w5.heap.size 0,_,L1,B5.out.fr (((Kp.refl (fun _=>False) w5 o1).renew 0).below hb6) id,HH5.out.below hb6,HL1.out,F5.out.trans (Fr.of_below hb6 0 (.inl rfl)),G5.out.on hb6,Kd.R_reok rfl (Kd.R_lower hr6 (Nat.zero_le _)) (fun k hk=>Own.from_ge (Kd.R_base hr6 k hk))⟩)
    clear hr6 hb6 HPAR HH5 F5 G5 B5
    go_wp2_with fail
    go_loopw [4,51] (fun s4 s51 w2=>∃ (i:Nat) (Tk:St) (jk:Int),i≤l.length∧s4=.int .i64 (j+jk)∧s51=.int .i64 i∧Hid (InReps B b g cb w w2 o Tk (S.L.length+(j+jk).toNat) (.slice A6 l.length k6) l)∧Hid (RepsOk Tk (l.drop i))∧Hid (reps T1 l=((reps Tk (l.drop i)).1,jk+(reps Tk (l.drop i)).2))∧0≤jk) (fun _ s51 _=>l.length - (intOf s51).toNat)
    case atStart=>exact ⟨0,T1,0,Nat.zero_le _,by simp,rfl,by simpa using HI6,HREPS.out,by simp [Hid],by omega⟩
    case round =>
     obtain ⟨i,Tk,jk,hi,rfl,rfl,⟨o2,C2,L2,g2,H2,hL2,F2,G2,R2⟩,hrk,hjk,hjk0⟩:=hrel
     have HG2:=Lib.hid g2
     have HH2:=Lib.hid H2
     have HL2:=Lib.hid hL2
     have HF2:=Lib.hid F2
     have HGL2:=Lib.hid G2
     have HR2:=Lib.hid R2
     have HRK:=Lib.hid hrk
     have HJK:=Lib.hid hjk
     clear g2 H2 hL2 F2 G2 R2 hrk hjk HI6
     by_cases hlt:i < l.length
     ·have hdr:l.drop i=l.getD i 0 :: l.drop (i+1):=by
       rw [List.drop_eq_getElem_cons hlt]
       congr 1
       rw [List.getD_eq_getElem?_getD,List.getElem?_eq_getElem hlt];rfl
      have hrk:=HRK.out
      have hjk:=HJK.out
      rw [hdr]at hrk hjk
      obtain ⟨hFk,hx0,hx1,hrk2⟩:=hrk
      obtain ⟨bv,cv,he,_,_,_⟩:=Kd.R_form HR2.out (by omega)
      injection he with he1 he2 he3
      subst he1
      obtain ⟨hcx,_⟩:=Kd.R_celln 0 HR2.out (i:Int) (by omega) (by omega)
      have e0:rdOf (0:Int) l (i:Int)=l.getD i 0:=by unfold rdOf;rw [Int.toNat_natCast]
      rw [e0,Int.toNat_natCast]at hcx
      generalize l.getD i 0=x at *
      have hr01:=repairS_joins Tk x
      have hnn:=reps_joins (l.drop (i+1)) (repairS Tk x).1
      have hrr:reps Tk (x :: l.drop (i+1))=((reps (repairS Tk x).1 (l.drop (i+1))).1,(repairS Tk x).2+(reps (repairS Tk x).1 (l.drop (i+1))).2):=rfl
      rw [hrr]at hjk
      have hjb:=HJB.out
      have hj2:(reps T1 l).2=jk+((repairS Tk x).2+(reps (repairS Tk x).1 (l.drop (i+1))).2):=by rw [hjk]
      have hb1:j+jk+(repairS Tk x).2≤800:=by omega
      have hL8:L2.length≤800:=by
       have h1:=HL2.out
       have h2:=HJ.out
       have h3:=HTOT.out
       omega
      have hrep:=repair_calls (HGL2.out) HH2.out (hFk.withL hL8) x hx0 hx1
      rw [repairS_withL]at hrep
      have HREP:=Lib.hid hrep
      have HJK2:=Lib.hid hjk
      have HRK2:=Lib.hid hrk2
      have hr0:0≤(repairS Tk x).2:=by omega
      clear hdr hjk hFk hrk2 he2 he3 e0 hnn hrr hjb hj2 hL8 hrep hr01 HJK HRK
      go_wp2_with fail
      refine HREP.out.mono ?_
      rintro e w3 ⟨o3,C3,L3,rfl,h3,hl3,f3⟩
      have HH3:=Lib.hid h3
      have HL3:=Lib.hid hl3
      have F3:=Lib.hid f3
      clear h3 hl3 f3 hcx
      have kp3:=Lib.hid F3.out.kp
      have hG3:=Lib.hid (HG2.out.fr F3.out.kp (by unfold CoreM;omega))
      have hI3:=Lib.hid (show InReps B b g cb w w3 o (repairS Tk x).1 (S.L.length+(j+(jk+(repairS Tk x).2)).toNat) (.slice (some ⟨bv,0,none⟩) l.length k6) l from
       ⟨o3,C3,L3,hG3.out,HH3.out,by
        have h1:=HL3.out
        have h2:=HL2.out
        have h4:(withL Tk L2).L=L2:=rfl
        rw [h4]at h1
        have h5:(withL (repairS Tk x).1 L2,(repairS Tk x).2).2=(repairS Tk x).2:=rfl
        rw [h5]at h1
        omega,HF2.out.trans (coreM_fr F3.out),HGL2.out.fr F3.out (by unfold CoreM;omega),HR2.out.fr F3.out.kp (by unfold CoreM;omega)⟩)
      generalize (repairS Tk x).2=r at *
      generalize (repairS Tk x).1=T3 at *
      go_wp2_with fail
      go_roundw
      case rel=>exact ⟨i+1,T3,jk+r,by omega,by rw [show j+(jk+r)=j+jk+r by omega],by go_num,hI3.out,HRK2.out,by rw [HJK2.out];show (_,_)=(_,_);rw [show jk+r+(reps T3 (l.drop (i+1))).2=jk+(r+(reps T3 (l.drop (i+1))).2) by omega],by omega⟩
      case measure=>first | (simp [intOf];done) | (simp [intOf];omega)
     ·have hil:i=l.length:=by omega
      subst hil
      have hjk:=HJK.out
      rw [List.drop_length]at hjk
      have hr:reps T1 l=(Tk,jk):=by rw [hjk];show (Tk,jk+0)=_;rw [Int.add_zero]
      have HR:=Lib.hid hr
      have hjb:=HJB.out
      rw [hr]at hjb
      simp only at hjb
      clear hjk hr
      go_wp2_with fail
      go_roundg k1
      case measure=>omega
      case rel =>
       refine ⟨Tk,j+jk,rfl,⟨o2,C2,L2,HG2.out,HH2.out,HL2.out,HF2.out,HGL2.out⟩,?_,?_,by omega,by omega⟩
       ·have:=HOK3.out
        rw [HR.out]at this
        exact this
       ·have:=HRE.out
        rw [HRB.out,HR.out]at this
        rw [this]
        show (_,_)=(_,_)
        rw [show j+jk+(rebN k1 Tk).2=j+(jk+(rebN k1 Tk).2) by omega]
end Go.Proofs.YtjckhhecnebmmaaGreatDoor.TU
end

-- short. By myprint.py (wip/tools), over the kit's print.
import Derived.Test.YtiolgmklpldpcaaDoorPx0
import Derived.Test.YtiolgmklpldpcaaDoorPx4
import Derived.Test.YtiolgmklpldpcaaDoorPx10
namespace Go.Proofs.YtiolgmklpldpcaaDoor.Px
open Go.RowKit Go.Proofs.YtiolgmklpldpcaaDoorW.PrintWords Go.Proofs.YtiolgmklpldpcaaDoorW.PrintLast Go.Proofs.YtiolgmklpldpcaaDoorW.PrintMore
attribute [local go_sem] max2_int min2_int max_two min_two max_three min_three max_four min_four
set_option linter.unusedVariables false
set_option linter.unusedSimpArgs false
/-! ### class_Name: function 6 -/
def class_Name.f (l0_0:List (S51)) (a0_1:Int) (a0_2:Int) (l0_3:List (S42)) (l0_4:List (S37)):Option (ByteArray):=(pool_Class.f l0_0 a0_1).bind fun bt261 => (some bt261.1)
set_option maxHeartbeats 80000000 in
set_option maxRecDepth 100000 in
theorem class_Name.calls (A0_0:Option Addr) (c0_0:Nat) (l0_0:List (S51)) (a0_1:Int) (a0_2:Int) (A0_3:Option Addr) (c0_3:Nat) (l0_3:List (S42)) (A0_4:Option Addr) (c0_4:Nat) (l0_4:List (S37)) (r:ByteArray) (w:World) (hr0_0:Kd.C k51 w A0_0 l0_0.length l0_0) (hc0_0:l0_0.length≤c0_0) (hr0_3:Kd.C k42 w A0_3 l0_3.length l0_3) (hc0_3:l0_3.length≤c0_3) (hr0_4:Kd.C k37 w A0_4 l0_4.length l0_4) (hc0_4:l0_4.length≤c0_4) (h:class_Name.f l0_0 a0_1 a0_2 l0_3 l0_4=some r) :
  Calls Tryd.prog 6 #[.agg #[.slice A0_0 l0_0.length c0_0,.int .i64 a0_1,.int .i64 a0_2,.slice A0_3 l0_3.length c0_3,.slice A0_4 l0_4.length c0_4]] w fun e w' => e=.returned (.string r)∧Below w.heap.size w w':=by
 have hu26:=Tryd.underlying26
 have HR0_0:=Aside0.mk hr0_0
 have HC0_0:=Aside0.mk hc0_0
 clear hr0_0 hc0_0
 have HR0_3:=Aside0.mk hr0_3
 have HC0_3:=Aside0.mk hc0_3
 clear hr0_3 hc0_3
 have HR0_4:=Aside0.mk hr0_4
 have HC0_4:=Aside0.mk hc0_4
 clear hr0_4 hc0_4
 have HB:=Aside0.mk (Below.refl w.heap.size w)
 have H:((pool_Class.f l0_0 a0_1).bind fun bt261 => (some bt261.1))=some r:=h
 clear h
 replace H:=Option.bind_eq_some_iff.mp H
 obtain ⟨⟨t261,t262⟩,A20,H⟩:=H
 replace H:(some t261)=some r:=H
 have A2:=Aside0.mk A20
 clear A20
 obtain rfl:=Option.some.inj H
 go_enter Tryd.func6,Tryd.ntmps6
 go_wp2_with (first|((with_reducible refine gate_dst (N:=1) rfl ?_);refine box_event ?hg (N:=1) ?hd (cs:=#[.slice A0_0 l0_0.length c0_0,.int .i64 a0_1,.int .i64 a0_2,.slice A0_3 l0_3.length c0_3,.slice A0_4 l0_4.length c0_4]) (t:=26) ?hr ?_;(case hd => rfl);(case hg => rfl);(case hr => first|(go_simp;done)|(go_simp;rfl));intro gb260 hg w3 hbox hb;have n0_:=Aside0.mk (below_step (by repeat (first|(with_reducible first|exact HB.out|apply below_alloc|apply pw_below_drewN|apply below_drew1)|exact HB.out)) hb);have n1_:=Aside0.mk (hbox);have n2_:=Aside0.mk ((by rw [hg];exact (below_size (by repeat (first|(with_reducible first|exact HB.out|apply below_alloc|apply pw_below_drewN|apply below_drew1)|exact HB.out))):w.heap.size≤gb260));have n3_:=Aside0.mk ((by rw [hg];exact (below_size (by repeat (first|(with_reducible first|exact HB.out|apply below_alloc|apply pw_below_drewN|apply below_drew1)|exact HB.out))):w.heap.size≤gb260));clear HB;have HB:=n0_;have BK260:=n1_;have GW260:=n2_;have GE260:=n3_;clear n0_ n1_ n2_ n3_;clear hb hbox hg;have hcz4_0:w3.cell? ⟨gb260,0,none⟩=some (.slice A0_0 l0_0.length c0_0):=(blk_cell BK260.out 0).trans rfl;have hcz4_1:w3.cell? ⟨gb260,1,none⟩=some (.int .i64 a0_1):=(blk_cell BK260.out 1).trans rfl;have hcz4_2:w3.cell? ⟨gb260,2,none⟩=some (.int .i64 a0_2):=(blk_cell BK260.out 2).trans rfl;have hcz4_3:w3.cell? ⟨gb260,3,none⟩=some (.slice A0_3 l0_3.length c0_3):=(blk_cell BK260.out 3).trans rfl;have hcz4_4:w3.cell? ⟨gb260,4,none⟩=some (.slice A0_4 l0_4.length c0_4):=(blk_cell BK260.out 4).trans rfl;have hfz4_0:=blk_frozen BK260.out 0;have hfz4_1:=blk_frozen BK260.out 1;have hfz4_2:=blk_frozen BK260.out 2;have hfz4_3:=blk_frozen BK260.out 3;have hfz4_4:=blk_frozen BK260.out 4)|((with_reducible refine gate_callee (f:=20) rfl ?_);refine goesL_ (some 10) rfl rfl Tryd.func20 (by kernel_rfl) rfl #[.slice A0_0 l0_0.length c0_0,.int .i64 a0_1] rfl (by (try simp only [List.map_toArray,List.map_cons,List.map_nil]);first|done|rfl|(simp only [List.length_drop,List.length_take];rfl)) ?_;(with_reducible refine (pool_Class.calls _ _ l0_0 a0_1 t261 t262 _ ?side1 ?side2 A2.out).mono ?_);(case side1 => repeat (first|exact (Kd.C_below HR0_0.out HB.out)|(with_reducible refine Kd.C_alloc ?_ _)|(with_reducible refine Kd.C_drewN ?_ _)|(with_reducible refine Kd.C_drew ?_)));(case side2 => exact HC0_0.out);rintro e w' ⟨rfl,⟨nd,rfl⟩⟩;refine ⟨_,rfl,?_⟩))
 go_ret
 exact ⟨by first|rfl|(simp [errW_none,errW_some] <;> rfl)|(simp [*,errW_none,errW_some] <;> rfl),by repeat (first|(with_reducible first|exact HB.out|apply below_alloc|apply pw_below_drewN|apply below_drew1|refine below_set ?_ GE260.out)|exact HB.out)⟩
/-! ### understudyref05_Name: function 7 -/
def understudyref05_Name.f (l0_0:List (S51)) (a0_1:Int) (a0_2:Int) (l0_3:List (S42)) (l0_4:List (S37)):Option (ByteArray):=(understudyref04_Class.f l0_0 a0_1).bind fun bt264 => (some bt264.1)
set_option maxHeartbeats 80000000 in
set_option maxRecDepth 100000 in
theorem understudyref05_Name.calls (A0_0:Option Addr) (c0_0:Nat) (l0_0:List (S51)) (a0_1:Int) (a0_2:Int) (A0_3:Option Addr) (c0_3:Nat) (l0_3:List (S42)) (A0_4:Option Addr) (c0_4:Nat) (l0_4:List (S37)) (r:ByteArray) (w:World) (hr0_0:Kd.C k51 w A0_0 l0_0.length l0_0) (hc0_0:l0_0.length≤c0_0) (hr0_3:Kd.C k42 w A0_3 l0_3.length l0_3) (hc0_3:l0_3.length≤c0_3) (hr0_4:Kd.C k37 w A0_4 l0_4.length l0_4) (hc0_4:l0_4.length≤c0_4) (h:understudyref05_Name.f l0_0 a0_1 a0_2 l0_3 l0_4=some r) :
  Calls Tryd.prog 7 #[.agg #[.slice A0_0 l0_0.length c0_0,.int .i64 a0_1,.int .i64 a0_2,.slice A0_3 l0_3.length c0_3,.slice A0_4 l0_4.length c0_4]] w fun e w' => e=.returned (.string r)∧Below w.heap.size w w':=by
 have hu26:=Tryd.underlying26
 have HR0_0:=Aside0.mk hr0_0
 have HC0_0:=Aside0.mk hc0_0
 clear hr0_0 hc0_0
 have HR0_3:=Aside0.mk hr0_3
 have HC0_3:=Aside0.mk hc0_3
 clear hr0_3 hc0_3
 have HR0_4:=Aside0.mk hr0_4
 have HC0_4:=Aside0.mk hc0_4
 clear hr0_4 hc0_4
 have HB:=Aside0.mk (Below.refl w.heap.size w)
 have H:((understudyref04_Class.f l0_0 a0_1).bind fun bt264 => (some bt264.1))=some r:=h
 clear h
 replace H:=Option.bind_eq_some_iff.mp H
 obtain ⟨⟨t264,t265⟩,A20,H⟩:=H
 replace H:(some t264)=some r:=H
 have A2:=Aside0.mk A20
 clear A20
 obtain rfl:=Option.some.inj H
 go_enter Tryd.func7,Tryd.ntmps7
 go_wp2_with (first|((with_reducible refine gate_dst (N:=1) rfl ?_);refine box_event ?hg (N:=1) ?hd (cs:=#[.slice A0_0 l0_0.length c0_0,.int .i64 a0_1,.int .i64 a0_2,.slice A0_3 l0_3.length c0_3,.slice A0_4 l0_4.length c0_4]) (t:=26) ?hr ?_;(case hd => rfl);(case hg => rfl);(case hr => first|(go_simp;done)|(go_simp;rfl));intro gb263 hg w3 hbox hb;have n0_:=Aside0.mk (below_step (by repeat (first|(with_reducible first|exact HB.out|apply below_alloc|apply pw_below_drewN|apply below_drew1)|exact HB.out)) hb);have n1_:=Aside0.mk (hbox);have n2_:=Aside0.mk ((by rw [hg];exact (below_size (by repeat (first|(with_reducible first|exact HB.out|apply below_alloc|apply pw_below_drewN|apply below_drew1)|exact HB.out))):w.heap.size≤gb263));have n3_:=Aside0.mk ((by rw [hg];exact (below_size (by repeat (first|(with_reducible first|exact HB.out|apply below_alloc|apply pw_below_drewN|apply below_drew1)|exact HB.out))):w.heap.size≤gb263));clear HB;have HB:=n0_;have BK263:=n1_;have GW263:=n2_;have GE263:=n3_;clear n0_ n1_ n2_ n3_;clear hb hbox hg;have hcz4_0:w3.cell? ⟨gb263,0,none⟩=some (.slice A0_0 l0_0.length c0_0):=(blk_cell BK263.out 0).trans rfl;have hcz4_1:w3.cell? ⟨gb263,1,none⟩=some (.int .i64 a0_1):=(blk_cell BK263.out 1).trans rfl;have hcz4_2:w3.cell? ⟨gb263,2,none⟩=some (.int .i64 a0_2):=(blk_cell BK263.out 2).trans rfl;have hcz4_3:w3.cell? ⟨gb263,3,none⟩=some (.slice A0_3 l0_3.length c0_3):=(blk_cell BK263.out 3).trans rfl;have hcz4_4:w3.cell? ⟨gb263,4,none⟩=some (.slice A0_4 l0_4.length c0_4):=(blk_cell BK263.out 4).trans rfl;have hfz4_0:=blk_frozen BK263.out 0;have hfz4_1:=blk_frozen BK263.out 1;have hfz4_2:=blk_frozen BK263.out 2;have hfz4_3:=blk_frozen BK263.out 3;have hfz4_4:=blk_frozen BK263.out 4)|((with_reducible refine gate_callee (f:=21) rfl ?_);refine goesL_ (some 10) rfl rfl Tryd.func21 (by kernel_rfl) rfl #[.slice A0_0 l0_0.length c0_0,.int .i64 a0_1] rfl (by (try simp only [List.map_toArray,List.map_cons,List.map_nil]);first|done|rfl|(simp only [List.length_drop,List.length_take];rfl)) ?_;(with_reducible refine (understudyref04_Class.calls _ _ l0_0 a0_1 t264 t265 _ ?side1 ?side2 A2.out).mono ?_);(case side1 => repeat (first|exact (Kd.C_below HR0_0.out HB.out)|(with_reducible refine Kd.C_alloc ?_ _)|(with_reducible refine Kd.C_drewN ?_ _)|(with_reducible refine Kd.C_drew ?_)));(case side2 => exact HC0_0.out);rintro e w' ⟨rfl,⟨nd,rfl⟩⟩;refine ⟨_,rfl,?_⟩))
 go_ret
 exact ⟨by first|rfl|(simp [errW_none,errW_some] <;> rfl)|(simp [*,errW_none,errW_some] <;> rfl),by repeat (first|(with_reducible first|exact HB.out|apply below_alloc|apply pw_below_drewN|apply below_drew1|refine below_set ?_ GE263.out)|exact HB.out)⟩
/-! ### class_Super: function 8 -/
def class_Super.f (l0_0:List (S51)) (a0_1:Int) (a0_2:Int) (l0_3:List (S42)) (l0_4:List (S37)):Option (ByteArray):=(pool_Class.f l0_0 a0_2).bind fun bt267 => (some bt267.1)
set_option maxHeartbeats 80000000 in
set_option maxRecDepth 100000 in
theorem class_Super.calls (A0_0:Option Addr) (c0_0:Nat) (l0_0:List (S51)) (a0_1:Int) (a0_2:Int) (A0_3:Option Addr) (c0_3:Nat) (l0_3:List (S42)) (A0_4:Option Addr) (c0_4:Nat) (l0_4:List (S37)) (r:ByteArray) (w:World) (hr0_0:Kd.C k51 w A0_0 l0_0.length l0_0) (hc0_0:l0_0.length≤c0_0) (hr0_3:Kd.C k42 w A0_3 l0_3.length l0_3) (hc0_3:l0_3.length≤c0_3) (hr0_4:Kd.C k37 w A0_4 l0_4.length l0_4) (hc0_4:l0_4.length≤c0_4) (h:class_Super.f l0_0 a0_1 a0_2 l0_3 l0_4=some r) :
  Calls Tryd.prog 8 #[.agg #[.slice A0_0 l0_0.length c0_0,.int .i64 a0_1,.int .i64 a0_2,.slice A0_3 l0_3.length c0_3,.slice A0_4 l0_4.length c0_4]] w fun e w' => e=.returned (.string r)∧Below w.heap.size w w':=by
 have hu26:=Tryd.underlying26
 have HR0_0:=Aside0.mk hr0_0
 have HC0_0:=Aside0.mk hc0_0
 clear hr0_0 hc0_0
 have HR0_3:=Aside0.mk hr0_3
 have HC0_3:=Aside0.mk hc0_3
 clear hr0_3 hc0_3
 have HR0_4:=Aside0.mk hr0_4
 have HC0_4:=Aside0.mk hc0_4
 clear hr0_4 hc0_4
 have HB:=Aside0.mk (Below.refl w.heap.size w)
 have H:((pool_Class.f l0_0 a0_2).bind fun bt267 => (some bt267.1))=some r:=h
 clear h
 replace H:=Option.bind_eq_some_iff.mp H
 obtain ⟨⟨t267,t268⟩,A20,H⟩:=H
 replace H:(some t267)=some r:=H
 have A2:=Aside0.mk A20
 clear A20
 obtain rfl:=Option.some.inj H
 go_enter Tryd.func8,Tryd.ntmps8
 go_wp2_with (first|((with_reducible refine gate_dst (N:=1) rfl ?_);refine box_event ?hg (N:=1) ?hd (cs:=#[.slice A0_0 l0_0.length c0_0,.int .i64 a0_1,.int .i64 a0_2,.slice A0_3 l0_3.length c0_3,.slice A0_4 l0_4.length c0_4]) (t:=26) ?hr ?_;(case hd => rfl);(case hg => rfl);(case hr => first|(go_simp;done)|(go_simp;rfl));intro gb266 hg w3 hbox hb;have n0_:=Aside0.mk (below_step (by repeat (first|(with_reducible first|exact HB.out|apply below_alloc|apply pw_below_drewN|apply below_drew1)|exact HB.out)) hb);have n1_:=Aside0.mk (hbox);have n2_:=Aside0.mk ((by rw [hg];exact (below_size (by repeat (first|(with_reducible first|exact HB.out|apply below_alloc|apply pw_below_drewN|apply below_drew1)|exact HB.out))):w.heap.size≤gb266));have n3_:=Aside0.mk ((by rw [hg];exact (below_size (by repeat (first|(with_reducible first|exact HB.out|apply below_alloc|apply pw_below_drewN|apply below_drew1)|exact HB.out))):w.heap.size≤gb266));clear HB;have HB:=n0_;have BK266:=n1_;have GW266:=n2_;have GE266:=n3_;clear n0_ n1_ n2_ n3_;clear hb hbox hg;have hcz4_0:w3.cell? ⟨gb266,0,none⟩=some (.slice A0_0 l0_0.length c0_0):=(blk_cell BK266.out 0).trans rfl;have hcz4_1:w3.cell? ⟨gb266,1,none⟩=some (.int .i64 a0_1):=(blk_cell BK266.out 1).trans rfl;have hcz4_2:w3.cell? ⟨gb266,2,none⟩=some (.int .i64 a0_2):=(blk_cell BK266.out 2).trans rfl;have hcz4_3:w3.cell? ⟨gb266,3,none⟩=some (.slice A0_3 l0_3.length c0_3):=(blk_cell BK266.out 3).trans rfl;have hcz4_4:w3.cell? ⟨gb266,4,none⟩=some (.slice A0_4 l0_4.length c0_4):=(blk_cell BK266.out 4).trans rfl;have hfz4_0:=blk_frozen BK266.out 0;have hfz4_1:=blk_frozen BK266.out 1;have hfz4_2:=blk_frozen BK266.out 2;have hfz4_3:=blk_frozen BK266.out 3;have hfz4_4:=blk_frozen BK266.out 4)|((with_reducible refine gate_callee (f:=20) rfl ?_);refine goesL_ (some 10) rfl rfl Tryd.func20 (by kernel_rfl) rfl #[.slice A0_0 l0_0.length c0_0,.int .i64 a0_2] rfl (by (try simp only [List.map_toArray,List.map_cons,List.map_nil]);first|done|rfl|(simp only [List.length_drop,List.length_take];rfl)) ?_;(with_reducible refine (pool_Class.calls _ _ l0_0 a0_2 t267 t268 _ ?side1 ?side2 A2.out).mono ?_);(case side1 => repeat (first|exact (Kd.C_below HR0_0.out HB.out)|(with_reducible refine Kd.C_alloc ?_ _)|(with_reducible refine Kd.C_drewN ?_ _)|(with_reducible refine Kd.C_drew ?_)));(case side2 => exact HC0_0.out);rintro e w' ⟨rfl,⟨nd,rfl⟩⟩;refine ⟨_,rfl,?_⟩))
 go_ret
 exact ⟨by first|rfl|(simp [errW_none,errW_some] <;> rfl)|(simp [*,errW_none,errW_some] <;> rfl),by repeat (first|(with_reducible first|exact HB.out|apply below_alloc|apply pw_below_drewN|apply below_drew1|refine below_set ?_ GE266.out)|exact HB.out)⟩
/-! ### understudyref05_Super: function 9 -/
def understudyref05_Super.f (l0_0:List (S51)) (a0_1:Int) (a0_2:Int) (l0_3:List (S42)) (l0_4:List (S37)):Option (ByteArray):=(understudyref04_Class.f l0_0 a0_2).bind fun bt270 => (some bt270.1)
set_option maxHeartbeats 80000000 in
set_option maxRecDepth 100000 in
theorem understudyref05_Super.calls (A0_0:Option Addr) (c0_0:Nat) (l0_0:List (S51)) (a0_1:Int) (a0_2:Int) (A0_3:Option Addr) (c0_3:Nat) (l0_3:List (S42)) (A0_4:Option Addr) (c0_4:Nat) (l0_4:List (S37)) (r:ByteArray) (w:World) (hr0_0:Kd.C k51 w A0_0 l0_0.length l0_0) (hc0_0:l0_0.length≤c0_0) (hr0_3:Kd.C k42 w A0_3 l0_3.length l0_3) (hc0_3:l0_3.length≤c0_3) (hr0_4:Kd.C k37 w A0_4 l0_4.length l0_4) (hc0_4:l0_4.length≤c0_4) (h:understudyref05_Super.f l0_0 a0_1 a0_2 l0_3 l0_4=some r) :
  Calls Tryd.prog 9 #[.agg #[.slice A0_0 l0_0.length c0_0,.int .i64 a0_1,.int .i64 a0_2,.slice A0_3 l0_3.length c0_3,.slice A0_4 l0_4.length c0_4]] w fun e w' => e=.returned (.string r)∧Below w.heap.size w w':=by
 have hu26:=Tryd.underlying26
 have HR0_0:=Aside0.mk hr0_0
 have HC0_0:=Aside0.mk hc0_0
 clear hr0_0 hc0_0
 have HR0_3:=Aside0.mk hr0_3
 have HC0_3:=Aside0.mk hc0_3
 clear hr0_3 hc0_3
 have HR0_4:=Aside0.mk hr0_4
 have HC0_4:=Aside0.mk hc0_4
 clear hr0_4 hc0_4
 have HB:=Aside0.mk (Below.refl w.heap.size w)
 have H:((understudyref04_Class.f l0_0 a0_2).bind fun bt270 => (some bt270.1))=some r:=h
 clear h
 replace H:=Option.bind_eq_some_iff.mp H
 obtain ⟨⟨t270,t271⟩,A20,H⟩:=H
 replace H:(some t270)=some r:=H
 have A2:=Aside0.mk A20
 clear A20
 obtain rfl:=Option.some.inj H
 go_enter Tryd.func9,Tryd.ntmps9
 go_wp2_with (first|((with_reducible refine gate_dst (N:=1) rfl ?_);refine box_event ?hg (N:=1) ?hd (cs:=#[.slice A0_0 l0_0.length c0_0,.int .i64 a0_1,.int .i64 a0_2,.slice A0_3 l0_3.length c0_3,.slice A0_4 l0_4.length c0_4]) (t:=26) ?hr ?_;(case hd => rfl);(case hg => rfl);(case hr => first|(go_simp;done)|(go_simp;rfl));intro gb269 hg w3 hbox hb;have n0_:=Aside0.mk (below_step (by repeat (first|(with_reducible first|exact HB.out|apply below_alloc|apply pw_below_drewN|apply below_drew1)|exact HB.out)) hb);have n1_:=Aside0.mk (hbox);have n2_:=Aside0.mk ((by rw [hg];exact (below_size (by repeat (first|(with_reducible first|exact HB.out|apply below_alloc|apply pw_below_drewN|apply below_drew1)|exact HB.out))):w.heap.size≤gb269));have n3_:=Aside0.mk ((by rw [hg];exact (below_size (by repeat (first|(with_reducible first|exact HB.out|apply below_alloc|apply pw_below_drewN|apply below_drew1)|exact HB.out))):w.heap.size≤gb269));clear HB;have HB:=n0_;have BK269:=n1_;have GW269:=n2_;have GE269:=n3_;clear n0_ n1_ n2_ n3_;clear hb hbox hg;have hcz4_0:w3.cell? ⟨gb269,0,none⟩=some (.slice A0_0 l0_0.length c0_0):=(blk_cell BK269.out 0).trans rfl;have hcz4_1:w3.cell? ⟨gb269,1,none⟩=some (.int .i64 a0_1):=(blk_cell BK269.out 1).trans rfl;have hcz4_2:w3.cell? ⟨gb269,2,none⟩=some (.int .i64 a0_2):=(blk_cell BK269.out 2).trans rfl;have hcz4_3:w3.cell? ⟨gb269,3,none⟩=some (.slice A0_3 l0_3.length c0_3):=(blk_cell BK269.out 3).trans rfl;have hcz4_4:w3.cell? ⟨gb269,4,none⟩=some (.slice A0_4 l0_4.length c0_4):=(blk_cell BK269.out 4).trans rfl;have hfz4_0:=blk_frozen BK269.out 0;have hfz4_1:=blk_frozen BK269.out 1;have hfz4_2:=blk_frozen BK269.out 2;have hfz4_3:=blk_frozen BK269.out 3;have hfz4_4:=blk_frozen BK269.out 4)|((with_reducible refine gate_callee (f:=21) rfl ?_);refine goesL_ (some 10) rfl rfl Tryd.func21 (by kernel_rfl) rfl #[.slice A0_0 l0_0.length c0_0,.int .i64 a0_2] rfl (by (try simp only [List.map_toArray,List.map_cons,List.map_nil]);first|done|rfl|(simp only [List.length_drop,List.length_take];rfl)) ?_;(with_reducible refine (understudyref04_Class.calls _ _ l0_0 a0_2 t270 t271 _ ?side1 ?side2 A2.out).mono ?_);(case side1 => repeat (first|exact (Kd.C_below HR0_0.out HB.out)|(with_reducible refine Kd.C_alloc ?_ _)|(with_reducible refine Kd.C_drewN ?_ _)|(with_reducible refine Kd.C_drew ?_)));(case side2 => exact HC0_0.out);rintro e w' ⟨rfl,⟨nd,rfl⟩⟩;refine ⟨_,rfl,?_⟩))
 go_ret
 exact ⟨by first|rfl|(simp [errW_none,errW_some] <;> rfl)|(simp [*,errW_none,errW_some] <;> rfl),by repeat (first|(with_reducible first|exact HB.out|apply below_alloc|apply pw_below_drewN|apply below_drew1|refine below_set ?_ GE269.out)|exact HB.out)⟩
end Go.Proofs.YtiolgmklpldpcaaDoor.Px

/- script.number, script.words: contracts. -/
/- strings.Split, strings.CutPrefix, strings.IndexByte, script.number in the print's form, out of the shelf's contracts. -/
/- The lines of a text: what strings.Split at a line's end gives, in plain Lean; there and back. -/
/- Plain law: decimal numerals: what is printed is read as itself. -/
/- script.words, script.Print: contracts. -/
/- script.kind, script.hex: contracts. -/
/- script.hex: its contract. -/
import Derived.Test.YtpofikjkccljlaaGreatDoorM1
import Derived.Lib.SplitLaws
import Derived.Lib.Split
import Derived.Lib.ItoaNum
import Derived.Lib.ParseIntB
import Derived.Lib.Strings
import Derived.Deep.RegionHeld3
import Derived.Lib.ItoaLen
import Derived.Lib.OthersKept
import Derived.Lib.Bytealg
import Derived.Lib.IndexLaws
import Derived.Lib.RuneCount
namespace Go.Proofs.YtpofikjkccljlaaGreatDoor.Px
open Go.RowKit Go.Proofs.YtpofikjkccljlaaGreatDoorW.PrintWords Go.Proofs.YtpofikjkccljlaaGreatDoorW.PrintLast Go.Proofs.YtpofikjkccljlaaGreatDoorW.PrintMore
attribute [local go_sem] max2_int min2_int max_two min_two max_three min_three max_four min_four
set_option linter.unusedVariables false
set_option linter.unusedSimpArgs false
attribute [local go_sem high] eqA50
mutual
def understudyref23_Parse.l0:Nat→ByteArray→List (List Int)→List (S50)→Int→Int→Int→Int→Option ((List (List Int)) × Int × (List (S50)) × Int × Int)
 | 0,_,_,_,_,_,_,_ => none
 | k + 1,x0,x7,x8,x9,x10,x11,x12 => if x12≤(x0.size:Int) then (if x12 < (x0.size:Int) then (if 0≤x12 then (understudyref23_Parse.j1 k x0 x7 x8 x9 x10 x11 x12 ((bt x0 x12) != 10)) else (none)) else (understudyref23_Parse.j1 k x0 x7 x8 x9 x10 x11 x12 false)) else (some (x7,x9,x8,0,0))
def understudyref23_Parse.j1:Nat→ByteArray→List (List Int)→List (S50)→Int→Int→Int→Int→Bool→Option ((List (List Int)) × Int × (List (S50)) × Int × Int)
 | 0,_,_,_,_,_,_,_,_ => none
 | k + 1,x0,x7,x8,x9,x10,x11,x12,x38 => if x38=true then (understudyref23_Parse.l0 k x0 x7 x8 x9 x10 x11 (wrap64 (x12 + 1))) else (if 0≤x10 then (if x10≤x12 then (if x12≤(x0.size:Int) then (if (x0.extract (x10:Int).toNat (x12:Int).toNat).toList=([]:List UInt8) then (understudyref23_Parse.j2 k x0 x7 x8 x9 (wrap64 (x12 + 1)) (wrap64 (x11 + 1)) x12 (x0.extract (x10:Int).toNat (x12:Int).toNat) true) else (if 0 < ((x0.extract (x10:Int).toNat (x12:Int).toNat).size:Int) then (understudyref23_Parse.j2 k x0 x7 x8 x9 (wrap64 (x12 + 1)) (wrap64 (x11 + 1)) x12 (x0.extract (x10:Int).toNat (x12:Int).toNat) ((bt (x0.extract (x10:Int).toNat (x12:Int).toNat) 0)==35)) else (none))) else (none)) else (none)) else (none))
def understudyref23_Parse.j2:Nat→ByteArray→List (List Int)→List (S50)→Int→Int→Int→Int→ByteArray→Bool→Option ((List (List Int)) × Int × (List (S50)) × Int × Int)
 | 0,_,_,_,_,_,_,_,_,_ => none
 | k + 1,x0,x7,x8,x9,x10,x11,x12,x13,x53 => if x53=true then (understudyref23_Parse.l0 k x0 x7 x8 x9 x10 x11 (wrap64 (x12 + 1))) else ((understudyref23_Line.f k x13).bind fun bt186 => (if bt186.2.2.2=0 then (if bt186.1.toList=([102,105,108,101]:List UInt8) then (if x7.length < 5864062014805 then (understudyref23_Parse.l0 k x0 (x7++[bt186.2.1]) x8 x9 x10 x11 (wrap64 (x12 + 1))) else (none)) else (if bt186.1.toList=([109,97,99,104,105,110,101,115]:List UInt8) then (if 0 < (bt186.2.2.1.length:Int) then (if (rd bt186.2.2.1 0) < (-2147483648) then (some (([]:List (List Int)),0,([]:List (S50)),x11,4)) else (if (rd bt186.2.2.1 0) > 2147483647 then (some (([]:List (List Int)),0,([]:List (S50)),x11,4)) else (understudyref23_Parse.l0 k x0 x7 x8 (rd bt186.2.2.1 0) x10 x11 (wrap64 (x12 + 1))))) else (none)) else ((understudyref23_act.f k bt186.1 bt186.2.2.1).bind fun bt200 => (if x8.length < 4398046511104 then (understudyref23_Parse.l0 k x0 x7 (x8++[(⟨bt200.1,bt200.2.1,bt200.2.2.1,bt200.2.2.2.1⟩:S50)]) x9 x10 x11 (wrap64 (x12 + 1))) else (none))))) else (some (([]:List (List Int)),0,([]:List (S50)),x11,4))))
end
def understudyref23_Parse.f (k:Nat) (a0:ByteArray):Option ((List (List Int)) × Int × (List (S50)) × Int × Int):=if (a0.size:Int) > 65536 then (some (([]:List (List Int)),0,([]:List (S50)),0,2)) else (understudyref23_Parse.l0 k a0 ([]:List (List Int)) ([]:List (S50)) 3 0 0 0)
theorem understudyref23_Parse.mono_l:∀ k,(∀ y0 y1 y2 y3 y4 y5 y6,LeO (understudyref23_Parse.l0 k y0 y1 y2 y3 y4 y5 y6) (understudyref23_Parse.l0 (k + 1) y0 y1 y2 y3 y4 y5 y6))∧(∀ y0 y1 y2 y3 y4 y5 y6 y7,LeO (understudyref23_Parse.j1 k y0 y1 y2 y3 y4 y5 y6 y7) (understudyref23_Parse.j1 (k + 1) y0 y1 y2 y3 y4 y5 y6 y7))∧(∀ y0 y1 y2 y3 y4 y5 y6 y7 y8,LeO (understudyref23_Parse.j2 k y0 y1 y2 y3 y4 y5 y6 y7 y8) (understudyref23_Parse.j2 (k + 1) y0 y1 y2 y3 y4 y5 y6 y7 y8))
 | 0 => ⟨fun _ _ _ _ _ _ _ r h => by simp [understudyref23_Parse.l0] at h,fun _ _ _ _ _ _ _ _ r h => by simp [understudyref23_Parse.j1] at h,fun _ _ _ _ _ _ _ _ _ r h => by simp [understudyref23_Parse.j2] at h⟩
 | k + 1 => by
  obtain ⟨ih0,ih1,ih2⟩:=understudyref23_Parse.mono_l k
  refine ⟨?_,?_,?_⟩
  ·intro y0 y1 y2 y3 y4 y5 y6
   unfold understudyref23_Parse.l0
   repeat' first
   | (with_reducible exact ih0 _ _ _ _ _ _ _)
   | (with_reducible exact ih1 _ _ _ _ _ _ _ _)
   | (with_reducible exact ih2 _ _ _ _ _ _ _ _ _)
   | (with_reducible exact understudyref23_Line.mono _ _)
   | (with_reducible exact understudyref23_act.mono _ _ _)
   | (with_reducible exact LeO.refl _)
   | (with_reducible exact LeO.none _)
   | (with_reducible refine LeO.ite ?_ ?_)
   | (with_reducible refine LeO.bind ?_ (fun _ => ?_))
   | exact ih0 _ _ _ _ _ _ _
   | exact ih1 _ _ _ _ _ _ _ _
   | exact ih2 _ _ _ _ _ _ _ _ _
   | exact understudyref23_Line.mono _ _
   | exact understudyref23_act.mono _ _ _
   | exact LeO.none _
   | refine LeO.ite ?_ ?_
   | refine LeO.bind ?_ (fun _ => ?_)
  ·intro y0 y1 y2 y3 y4 y5 y6 y7
   unfold understudyref23_Parse.j1
   repeat' first
   | (with_reducible exact ih0 _ _ _ _ _ _ _)
   | (with_reducible exact ih1 _ _ _ _ _ _ _ _)
   | (with_reducible exact ih2 _ _ _ _ _ _ _ _ _)
   | (with_reducible exact understudyref23_Line.mono _ _)
   | (with_reducible exact understudyref23_act.mono _ _ _)
   | (with_reducible exact LeO.refl _)
   | (with_reducible exact LeO.none _)
   | (with_reducible refine LeO.ite ?_ ?_)
   | (with_reducible refine LeO.bind ?_ (fun _ => ?_))
   | exact ih0 _ _ _ _ _ _ _
   | exact ih1 _ _ _ _ _ _ _ _
   | exact ih2 _ _ _ _ _ _ _ _ _
   | exact understudyref23_Line.mono _ _
   | exact understudyref23_act.mono _ _ _
   | exact LeO.none _
   | refine LeO.ite ?_ ?_
   | refine LeO.bind ?_ (fun _ => ?_)
  ·intro y0 y1 y2 y3 y4 y5 y6 y7 y8
   unfold understudyref23_Parse.j2
   repeat' first
   | (with_reducible exact ih0 _ _ _ _ _ _ _)
   | (with_reducible exact ih1 _ _ _ _ _ _ _ _)
   | (with_reducible exact ih2 _ _ _ _ _ _ _ _ _)
   | (with_reducible exact understudyref23_Line.mono _ _)
   | (with_reducible exact understudyref23_act.mono _ _ _)
   | (with_reducible exact LeO.refl _)
   | (with_reducible exact LeO.none _)
   | (with_reducible refine LeO.ite ?_ ?_)
   | (with_reducible refine LeO.bind ?_ (fun _ => ?_))
   | exact ih0 _ _ _ _ _ _ _
   | exact ih1 _ _ _ _ _ _ _ _
   | exact ih2 _ _ _ _ _ _ _ _ _
   | exact understudyref23_Line.mono _ _
   | exact understudyref23_act.mono _ _ _
   | exact LeO.none _
   | refine LeO.ite ?_ ?_
   | refine LeO.bind ?_ (fun _ => ?_)
theorem understudyref23_Parse.mono:∀ a0 k,LeO (understudyref23_Parse.f k a0) (understudyref23_Parse.f (k + 1) a0):=by
 intro a0 k
 obtain ⟨ih0,ih1,ih2⟩:=understudyref23_Parse.mono_l k
 unfold understudyref23_Parse.f
 repeat' first
   | (with_reducible exact ih0 _ _ _ _ _ _ _)
   | (with_reducible exact ih1 _ _ _ _ _ _ _ _)
   | (with_reducible exact ih2 _ _ _ _ _ _ _ _ _)
   | (with_reducible exact understudyref23_Line.mono _ _)
   | (with_reducible exact understudyref23_act.mono _ _ _)
   | (with_reducible exact LeO.refl _)
   | (with_reducible exact LeO.none _)
   | (with_reducible refine LeO.ite ?_ ?_)
   | (with_reducible refine LeO.bind ?_ (fun _ => ?_))
   | exact ih0 _ _ _ _ _ _ _
   | exact ih1 _ _ _ _ _ _ _ _
   | exact ih2 _ _ _ _ _ _ _ _ _
   | exact understudyref23_Line.mono _ _
   | exact understudyref23_act.mono _ _ _
   | exact LeO.none _
   | refine LeO.ite ?_ ?_
   | refine LeO.bind ?_ (fun _ => ?_)
set_option maxHeartbeats 80000000 in
set_option maxRecDepth 100000 in
theorem understudyref23_Parse.calls (k:Nat) (a0:ByteArray) (r1:List (List Int)) (r2:Int) (r3:List (S50)) (r4:Int) (r5:Int) (w:World) (h:understudyref23_Parse.f k a0=some (r1,r2,r3,r4,r5)) :
  Calls Tryz.prog 5 #[.string a0] w fun e w' => ∃ v0_ v2_:Value,e=.returned (.tuple #[v0_,.int .i64 r2,v2_,.int .i64 r4,.int .i64 r5])∧Kd.S (Kd.slice 5 (Kd.int .u8)) 45 w' w.heap.size (fun _ => True) v0_ r1∧Kd.R k50 50 w' w.heap.size (fun _ => True) v2_ r3∧Below w.heap.size w w':=by
 have hu50:=Tryz.underlying50
 have HB:=Aside0.mk (Below.refl w.heap.size w)
 have H:(if (a0.size:Int) > 65536 then (some (([]:List (List Int)),0,([]:List (S50)),0,2)) else (understudyref23_Parse.l0 k a0 ([]:List (List Int)) ([]:List (S50)) 3 0 0 0))=some (r1,r2,r3,r4,r5):=h
 clear h
 by_cases c2:(a0.size:Int) > 65536
 ·rw [if_pos c2] at H
  have c2b0:decide (65536 < (a0.size:Int))=true:=decide_eq_true c2
  have c2b1:decide (65536 < a0.size)=true:=decide_eq_true (by omega)
  clear c2
  simp only [Option.some.injEq,Prod.mk.injEq] at H
  obtain ⟨rfl,rfl,rfl,rfl,rfl⟩:=H
  go_enter Tryz.func5,Tryz.ntmps5
  go_wp2
  refine bodyPost_ret (results_list (rs:=[.tmp 2,.tmp 3,.tmp 4,.tmp 5,.tmp 6]) rfl (by simp) (.tmp (.tmp (.tmp (.tmp (.tmp .nil)))))) rfl ?_
  exact ⟨_,_,by first|rfl|(simp [errW_none,errW_some] <;> rfl)|(simp [*,errW_none,errW_some] <;> rfl),by first|exact Kd.S_nil _ _ _ _ _|exact Kd.N_nil _ _ _ _ _|exact Kd.V_nil _ _ _ _ _|exact Kd.Q_nil _ _ _ _ _|exact Kd.R_nil _ _ _ _ _,by first|exact Kd.R_nil _ _ _ _ _|exact Kd.N_nil _ _ _ _ _|exact Kd.V_nil _ _ _ _ _|exact Kd.Q_nil _ _ _ _ _|exact Kd.S_nil _ _ _ _ _,by repeat (first|(with_reducible first|exact HB.out|apply below_alloc|apply pw_below_drewN|apply below_drew1)|exact HB.out)⟩
 ·rw [if_neg c2] at H
  have c2b0:decide (65536 < (a0.size:Int))=false:=decide_eq_false c2
  have c2b1:decide (65536 < a0.size)=false:=decide_eq_false (by omega)
  clear c2
  have H':=Aside0.mk H
  clear H
  go_enter Tryz.func5,Tryz.ntmps5
  go_wp2
  go_loopg [7,8,9,10,11,12] k (fun kq v7 v8 v9 v10 v11 v12 w' => ∃ (x7_1:List (List Int)) (x8_1:List (S50)) (x9_1:Int) (x10_1:Int) (x11_1:Int) (x12_1:Int),v9=.int .i64 x9_1∧v10=.int .i64 x10_1∧v11=.int .i64 x11_1∧v12=.int .i64 x12_1∧Aside0 (understudyref23_Parse.l0 kq a0 x7_1 x8_1 x9_1 x10_1 x11_1 x12_1=some (r1,r2,r3,r4,r5))∧Aside0 (kq≤k)∧Aside0 (Kd.S (Kd.slice 5 (Kd.int .u8)) 45 w' w.heap.size (fun _ => True) v7 x7_1)∧Aside0 (Kd.R k50 50 w' w.heap.size (fun _ => True) v8 x8_1)∧Aside0 (Below w.heap.size w w'))
  case atStart => exact ⟨(([]:List (List Int))),(([]:List (S50))),(3),(0),(0),(0),(by first|rfl|(simp;done)|(simp [*];done)),(by first|rfl|(simp;done)|(simp [*];done)),(by first|rfl|(simp;done)|(simp [*];done)),(by first|rfl|(simp;done)|(simp [*];done)),H',⟨Nat.le_refl _⟩,⟨by first|exact Kd.S_nil _ _ _ _ _|exact Kd.N_nil _ _ _ _ _|exact Kd.V_nil _ _ _ _ _|exact Kd.Q_nil _ _ _ _ _|exact Kd.R_nil _ _ _ _ _⟩,⟨by first|exact Kd.R_nil _ _ _ _ _|exact Kd.N_nil _ _ _ _ _|exact Kd.V_nil _ _ _ _ _|exact Kd.Q_nil _ _ _ _ _|exact Kd.S_nil _ _ _ _ _⟩,⟨by repeat (first|(with_reducible first|exact HB.out|apply below_alloc|apply pw_below_drewN|apply below_drew1)|exact HB.out)⟩⟩
  case round =>
   clear H'
   try clear c2;try clear c2b0;try clear c2b1;try clear p2
   obtain ⟨x7_1,x8_1,x9_1,x10_1,x11_1,x12_1,rfl,rfl,rfl,rfl,HA,HK1,HO_7,HO_8,HB⟩:=hrel
   cases gk with
   | zero => exact absurd HA.out (by simp [understudyref23_Parse.l0])
   | succ k1 =>
    have H:=HA.out
    clear HA
    simp only [understudyref23_Parse.l0] at H
    by_cases c3:x12_1≤(a0.size:Int)
    ·rw [if_pos c3] at H
     have c3b0:decide (x12_1≤(a0.size:Int))=true:=decide_eq_true c3
     clear c3
     have HC4:=Aside0.mk H
     clear H
     go_upto_region 11 with (fail)
     go_cut [38] (fun v38 wc => ∃ (kq:Nat) (x38_3:Bool),v38=.bool x38_3∧Aside0 (understudyref23_Parse.j1 kq a0 x7_1 x8_1 x9_1 x10_1 x11_1 x12_1 x38_3=some (r1,r2,r3,r4,r5))∧Aside0 (kq≤k1)∧Aside0 (Kd.S (Kd.slice 5 (Kd.int .u8)) 45 wc w.heap.size (fun _ => True) u7 x7_1)∧Aside0 (Kd.R k50 50 wc w.heap.size (fun _ => True) u8 x8_1)∧Aside0 (Below w.heap.size w wc))
     case first =>
      have H:=HC4.out
      clear HC4
      by_cases c5:x12_1 < (a0.size:Int)
      ·rw [if_pos c5] at H
       have c5b0:decide (x12_1 < (a0.size:Int))=true:=decide_eq_true c5
       clear c5
       (first|rw [c5b0]|(simp only [i64_w,i32_w];rw [c5b0])|skip)
       by_cases c6:0≤x12_1
       ·rw [if_pos c6] at H
        have c6b0:decide (0≤x12_1)=true:=decide_eq_true c6
        clear c6
        have H':=Aside0.mk H
        clear H
        have p7:0≤(x12_1:Int):=of_decide_eq_true (by first|(with_reducible assumption)|assumption)
        have q7:x12_1 < (a0.size:Int):=of_decide_eq_true (by first|(with_reducible assumption)|assumption)
        have hx7:=bt_at a0 x12_1
        replace p7:=eq_true p7
        replace q7:=eq_true q7
        go_wp2
        go_meet
        case rel => exact ⟨_,(((bt a0 x12_1) != 10)),(by first|rfl|(simp;done)|(simp [*];done)),H',⟨by have:=HK1.out;first|omega|exact Nat.le_refl _⟩,⟨by (with_reducible repeat (first|apply Kd.S_alloc|apply Kd.S_drewN|apply Kd.S_drew));exact HO_7.out⟩,⟨by (with_reducible repeat (first|apply Kd.R_alloc|apply Kd.R_drewN|apply Kd.R_drew));exact HO_8.out⟩,⟨by repeat (first|(with_reducible first|exact HB.out|apply below_alloc|apply pw_below_drewN|apply below_drew1)|exact HB.out)⟩⟩
       ·rw [if_neg c6] at H
        exact absurd H (by simp)
      ·rw [if_neg c5] at H
       have c5b0:decide (x12_1 < (a0.size:Int))=false:=decide_eq_false c5
       clear c5
       (first|rw [c5b0]|(simp only [i64_w,i32_w];rw [c5b0])|skip)
       have H':=Aside0.mk H
       clear H
       go_wp2
       go_meet
       case rel => exact ⟨_,(false),(by first|rfl|(simp;done)|(simp [*];done)),H',⟨by have:=HK1.out;first|omega|exact Nat.le_refl _⟩,⟨by (with_reducible repeat (first|apply Kd.S_alloc|apply Kd.S_drewN|apply Kd.S_drew));exact HO_7.out⟩,⟨by (with_reducible repeat (first|apply Kd.R_alloc|apply Kd.R_drewN|apply Kd.R_drew));exact HO_8.out⟩,⟨by repeat (first|(with_reducible first|exact HB.out|apply below_alloc|apply pw_below_drewN|apply below_drew1)|exact HB.out)⟩⟩
     case rest =>
      clear HC4
      try clear c2;try clear c2b0;try clear c2b1;try clear p2;try clear c3;try clear c3b0;try clear c5;try clear c5b0;try clear c6;try clear c6b0;try clear p7;try clear q7;try clear hx7;try clear p2;try clear p7;try clear q7
      obtain ⟨kq,x38_3,rfl,HA,HJ3,HO_7,HO_8,HB⟩:=hcut
      cases kq with
      | zero => exact absurd HA.out (by simp [understudyref23_Parse.j1])
      | succ kj3 =>
       have H:=HA.out
       clear HA
       simp only [understudyref23_Parse.j1] at H
       by_cases c8:x38_3=true
       ·subst c8
        have H1:(understudyref23_Parse.l0 kj3 a0 x7_1 x8_1 x9_1 x10_1 x11_1 (wrap64 (x12_1 + 1)))=some (r1,r2,r3,r4,r5):=by rw [if_pos rfl] at H;exact H
        clear H
        have H:=H1
        clear H1
        have H':=Aside0.mk H
        clear H
        go_wp2
        go_roundg kj3
        case measure => have:=HK1.out;have:=HJ3.out;omega
        case rel => exact ⟨(x7_1),(x8_1),(x9_1),(x10_1),(x11_1),(wrap64 (x12_1 + 1)),(by first|rfl|(simp;done)|(simp [*];done)),(by first|rfl|(simp;done)|(simp [*];done)),(by first|rfl|(simp;done)|(simp [*];done)),(by first|rfl|(simp;done)|(simp [*];done)),H',⟨by have:=HK1.out;have:=HJ3.out;omega⟩,⟨by (with_reducible repeat (first|apply Kd.S_alloc|apply Kd.S_drewN|apply Kd.S_drew));exact HO_7.out⟩,⟨by (with_reducible repeat (first|apply Kd.R_alloc|apply Kd.R_drewN|apply Kd.R_drew));exact HO_8.out⟩,⟨by repeat (first|(with_reducible first|exact HB.out|apply below_alloc|apply pw_below_drewN|apply below_drew1)|exact HB.out)⟩⟩
       ·replace c8:=Bool.eq_false_iff.mpr c8
        subst c8
        have H1:(if 0≤x10_1 then (if x10_1≤x12_1 then (if x12_1≤(a0.size:Int) then (if (a0.extract (x10_1:Int).toNat (x12_1:Int).toNat).toList=([]:List UInt8) then (understudyref23_Parse.j2 kj3 a0 x7_1 x8_1 x9_1 (wrap64 (x12_1 + 1)) (wrap64 (x11_1 + 1)) x12_1 (a0.extract (x10_1:Int).toNat (x12_1:Int).toNat) true) else (if 0 < ((a0.extract (x10_1:Int).toNat (x12_1:Int).toNat).size:Int) then (understudyref23_Parse.j2 kj3 a0 x7_1 x8_1 x9_1 (wrap64 (x12_1 + 1)) (wrap64 (x11_1 + 1)) x12_1 (a0.extract (x10_1:Int).toNat (x12_1:Int).toNat) ((bt (a0.extract (x10_1:Int).toNat (x12_1:Int).toNat) 0)==35)) else (none))) else (none)) else (none)) else (none))=some (r1,r2,r3,r4,r5):=by rw [if_neg (show ¬ (false=true) by decide)] at H;exact H
        clear H
        have H:=H1
        clear H1
        by_cases c9:0≤x10_1
        ·rw [if_pos c9] at H
         have c9b0:=eq_true c9
         have c9b1:decide (0≤x10_1)=true:=decide_eq_true c9
         clear c9
         by_cases c10:x10_1≤x12_1
         ·rw [if_pos c10] at H
          have c10b0:=eq_true c10
          have c10b1:decide (x10_1≤x12_1)=true:=decide_eq_true c10
          clear c10
          by_cases c11:x12_1≤(a0.size:Int)
          ·rw [if_pos c11] at H
           have c11b0:=eq_true c11
           have c11b1:decide (x12_1≤(a0.size:Int))=true:=decide_eq_true c11
           clear c11
           have HC12:=Aside0.mk H
           clear H
           go_upto_region 15 with (fail)
           go_cut [53] (fun v53 wc => ∃ (kq:Nat) (x53_11:Bool),v53=.bool x53_11∧Aside0 (understudyref23_Parse.j2 kq a0 x7_1 x8_1 x9_1 (wrap64 (x12_1 + 1)) (wrap64 (x11_1 + 1)) x12_1 (a0.extract (x10_1:Int).toNat (x12_1:Int).toNat) x53_11=some (r1,r2,r3,r4,r5))∧Aside0 (kq≤kj3)∧Aside0 (Kd.S (Kd.slice 5 (Kd.int .u8)) 45 wc w.heap.size (fun _ => True) u7 x7_1)∧Aside0 (Kd.R k50 50 wc w.heap.size (fun _ => True) u8 x8_1)∧Aside0 (Below w.heap.size w wc))
           case first =>
            have H:=HC12.out
            clear HC12
            by_cases c13:(a0.extract (x10_1:Int).toNat (x12_1:Int).toNat).toList=([]:List UInt8)
            ·rw [if_pos c13] at H
             have c13b0:((a0.extract (x10_1:Int).toNat (x12_1:Int).toNat).toList==([]:List UInt8))=true:=beq_iff_eq.mpr c13
             have c13b1:((a0.extract (x10_1:Int).toNat (x12_1:Int).toNat).toList != ([]:List UInt8))=false:=bne_eq_false_iff_eq.mpr c13
             clear c13
             (first|rw [c13b0]|(simp only [i64_w,i32_w];rw [c13b0])|skip)
             have H':=Aside0.mk H
             clear H
             go_wp2
             go_meet
             case rel => exact ⟨_,(true),(by first|rfl|(simp;done)|(simp [*];done)),H',⟨by have:=HK1.out;have:=HJ3.out;first|omega|exact Nat.le_refl _⟩,⟨by (with_reducible repeat (first|apply Kd.S_alloc|apply Kd.S_drewN|apply Kd.S_drew));exact HO_7.out⟩,⟨by (with_reducible repeat (first|apply Kd.R_alloc|apply Kd.R_drewN|apply Kd.R_drew));exact HO_8.out⟩,⟨by repeat (first|(with_reducible first|exact HB.out|apply below_alloc|apply pw_below_drewN|apply below_drew1)|exact HB.out)⟩⟩
            ·rw [if_neg c13] at H
             have c13b0:((a0.extract (x10_1:Int).toNat (x12_1:Int).toNat).toList==([]:List UInt8))=false:=beq_eq_false_iff_ne.mpr c13
             have c13b1:((a0.extract (x10_1:Int).toNat (x12_1:Int).toNat).toList != ([]:List UInt8))=true:=bne_iff_ne.mpr c13
             (first|rw [c13b0]|(simp only [i64_w,i32_w];rw [c13b0])|skip)
             by_cases c14:0 < ((a0.extract (x10_1:Int).toNat (x12_1:Int).toNat).size:Int)
             ·rw [if_pos c14] at H
              have c14b0:decide (0 < ((a0.extract (x10_1:Int).toNat (x12_1:Int).toNat).size:Int))=true:=decide_eq_true c14
              have c14b1:decide (0 < (a0.extract (x10_1:Int).toNat (x12_1:Int).toNat).size)=true:=decide_eq_true (by omega)
              clear c14
              have H':=Aside0.mk H
              clear H
              have p15:0≤(0:Int):=(by omega)
              have q15:0 < (a0.extract (x10_1:Int).toNat (x12_1:Int).toNat).size:=(by have:(0:Int) < ((a0.extract (x10_1:Int).toNat (x12_1:Int).toNat).size:Int):=of_decide_eq_true (by first|(with_reducible assumption)|assumption);omega)
              have q15x:x10_1.toNat < x12_1.toNat:=by have h_:=q15;rw [ByteArray.size_extract] at h_;omega
              have q15y:(x10_1.toNat < x12_1.toNat)=True:=eq_true q15x
              have q15z:(0 < x12_1.toNat - x10_1.toNat)=True:=eq_true (by omega)
              have q15w:(0 < ((x12_1.toNat - x10_1.toNat:Nat):Int))=True:=eq_true (by omega)
              have hx15:∀ h:0 < (a0.extract (x10_1:Int).toNat (x12_1:Int).toNat).size,(((a0.extract (x10_1:Int).toNat (x12_1:Int).toNat)[0]'h).toNat:Int)=bt (a0.extract (x10_1:Int).toNat (x12_1:Int).toNat) 0:=bt_at (a0.extract (x10_1:Int).toNat (x12_1:Int).toNat) 0
              clear p15
              have qi15:(0 < ((a0.extract (x10_1:Int).toNat (x12_1:Int).toNat).size:Int))=True:=eq_true (of_decide_eq_true (by first|(with_reducible assumption)|assumption))
              replace q15:=eq_true q15
              go_wp2
              go_meet
              case rel => exact ⟨_,(((bt (a0.extract (x10_1:Int).toNat (x12_1:Int).toNat) 0)==35)),(by first|rfl|(simp;done)|(simp [*];done)),H',⟨by have:=HK1.out;have:=HJ3.out;first|omega|exact Nat.le_refl _⟩,⟨by (with_reducible repeat (first|apply Kd.S_alloc|apply Kd.S_drewN|apply Kd.S_drew));exact HO_7.out⟩,⟨by (with_reducible repeat (first|apply Kd.R_alloc|apply Kd.R_drewN|apply Kd.R_drew));exact HO_8.out⟩,⟨by repeat (first|(with_reducible first|exact HB.out|apply below_alloc|apply pw_below_drewN|apply below_drew1)|exact HB.out)⟩⟩
             ·rw [if_neg c14] at H
              exact absurd H (by simp)
           case rest =>
            clear HC12
            try clear c1;try clear p1;try clear q1;try clear hx1;try clear qi1;try clear c2;try clear c2b0;try clear c2b1;try clear p2;try clear c3;try clear c3b0;try clear c5;try clear c5b0;try clear c6;try clear c6b0;try clear p6;try clear p7;try clear q7;try clear hx7;try clear c8;try clear c9;try clear c9b0;try clear c9b1;try clear c10;try clear c10b0;try clear c10b1;try clear c11;try clear c11b0;try clear c11b1;try clear c13;try clear c13b0;try clear c13b1;try clear c14;try clear c14b0;try clear c14b1;try clear p15;try clear q15;try clear hx15;try clear qi15;try clear p15;try clear p2;try clear p7;try clear q15;try clear q7
            obtain ⟨kq,x53_11,rfl,HA,HJ11,HO_7,HO_8,HB⟩:=hcut
            cases kq with
            | zero => exact absurd HA.out (by simp [understudyref23_Parse.j2])
            | succ kj11 =>
             have H:=HA.out
             clear HA
             simp only [understudyref23_Parse.j2] at H
             by_cases c16:x53_11=true
             ·subst c16
              have H1:(understudyref23_Parse.l0 kj11 a0 x7_1 x8_1 x9_1 (wrap64 (x12_1 + 1)) (wrap64 (x11_1 + 1)) (wrap64 (x12_1 + 1)))=some (r1,r2,r3,r4,r5):=by rw [if_pos rfl] at H;exact H
              clear H
              have H:=H1
              clear H1
              have H':=Aside0.mk H
              clear H
              go_wp2
              go_roundg kj11
              case measure => have:=HK1.out;have:=HJ3.out;have:=HJ11.out;omega
              case rel => exact ⟨(x7_1),(x8_1),(x9_1),((wrap64 (x12_1 + 1))),((wrap64 (x11_1 + 1))),(wrap64 (x12_1 + 1)),(by first|rfl|(simp;done)|(simp [*];done)),(by first|rfl|(simp;done)|(simp [*];done)),(by first|rfl|(simp;done)|(simp [*];done)),(by first|rfl|(simp;done)|(simp [*];done)),H',⟨by have:=HK1.out;have:=HJ3.out;have:=HJ11.out;omega⟩,⟨by (with_reducible repeat (first|apply Kd.S_alloc|apply Kd.S_drewN|apply Kd.S_drew));exact HO_7.out⟩,⟨by (with_reducible repeat (first|apply Kd.R_alloc|apply Kd.R_drewN|apply Kd.R_drew));exact HO_8.out⟩,⟨by repeat (first|(with_reducible first|exact HB.out|apply below_alloc|apply pw_below_drewN|apply below_drew1)|exact HB.out)⟩⟩
             ·replace c16:=Bool.eq_false_iff.mpr c16
              subst c16
              have H1:((understudyref23_Line.f kj11 (a0.extract (x10_1:Int).toNat (x12_1:Int).toNat)).bind fun bt186 => (if bt186.2.2.2=0 then (if bt186.1.toList=([102,105,108,101]:List UInt8) then (if x7_1.length < 5864062014805 then (understudyref23_Parse.l0 kj11 a0 (x7_1++[bt186.2.1]) x8_1 x9_1 (wrap64 (x12_1 + 1)) (wrap64 (x11_1 + 1)) (wrap64 (x12_1 + 1))) else (none)) else (if bt186.1.toList=([109,97,99,104,105,110,101,115]:List UInt8) then (if 0 < (bt186.2.2.1.length:Int) then (if (rd bt186.2.2.1 0) < (-2147483648) then (some (([]:List (List Int)),0,([]:List (S50)),(wrap64 (x11_1 + 1)),4)) else (if (rd bt186.2.2.1 0) > 2147483647 then (some (([]:List (List Int)),0,([]:List (S50)),(wrap64 (x11_1 + 1)),4)) else (understudyref23_Parse.l0 kj11 a0 x7_1 x8_1 (rd bt186.2.2.1 0) (wrap64 (x12_1 + 1)) (wrap64 (x11_1 + 1)) (wrap64 (x12_1 + 1))))) else (none)) else ((understudyref23_act.f kj11 bt186.1 bt186.2.2.1).bind fun bt200 => (if x8_1.length < 4398046511104 then (understudyref23_Parse.l0 kj11 a0 x7_1 (x8_1++[(⟨bt200.1,bt200.2.1,bt200.2.2.1,bt200.2.2.2.1⟩:S50)]) x9_1 (wrap64 (x12_1 + 1)) (wrap64 (x11_1 + 1)) (wrap64 (x12_1 + 1))) else (none))))) else (some (([]:List (List Int)),0,([]:List (S50)),(wrap64 (x11_1 + 1)),4))))=some (r1,r2,r3,r4,r5):=by rw [if_neg (show ¬ (false=true) by decide)] at H;exact H
              clear H
              have H:=H1
              clear H1
              replace H:=Option.bind_eq_some_iff.mp H
              obtain ⟨⟨t186,t187,t188,t189⟩,A170,H⟩:=H
              replace H:(if t189=0 then (if t186.toList=([102,105,108,101]:List UInt8) then (if x7_1.length < 5864062014805 then (understudyref23_Parse.l0 kj11 a0 (x7_1++[t187]) x8_1 x9_1 (wrap64 (x12_1 + 1)) (wrap64 (x11_1 + 1)) (wrap64 (x12_1 + 1))) else (none)) else (if t186.toList=([109,97,99,104,105,110,101,115]:List UInt8) then (if 0 < (t188.length:Int) then (if (rd t188 0) < (-2147483648) then (some (([]:List (List Int)),0,([]:List (S50)),(wrap64 (x11_1 + 1)),4)) else (if (rd t188 0) > 2147483647 then (some (([]:List (List Int)),0,([]:List (S50)),(wrap64 (x11_1 + 1)),4)) else (understudyref23_Parse.l0 kj11 a0 x7_1 x8_1 (rd t188 0) (wrap64 (x12_1 + 1)) (wrap64 (x11_1 + 1)) (wrap64 (x12_1 + 1))))) else (none)) else ((understudyref23_act.f kj11 t186 t188).bind fun bt200 => (if x8_1.length < 4398046511104 then (understudyref23_Parse.l0 kj11 a0 x7_1 (x8_1++[(⟨bt200.1,bt200.2.1,bt200.2.2.1,bt200.2.2.2.1⟩:S50)]) x9_1 (wrap64 (x12_1 + 1)) (wrap64 (x11_1 + 1)) (wrap64 (x12_1 + 1))) else (none))))) else (some (([]:List (List Int)),0,([]:List (S50)),(wrap64 (x11_1 + 1)),4)))=some (r1,r2,r3,r4,r5):=H
              have A17:=Aside0.mk A170
              clear A170
              by_cases c18:t189=0
              ·rw [if_pos c18] at H
               have c18b0:(t189==0)=true:=beq_iff_eq.mpr c18
               have c18b1:(t189 != 0)=false:=bne_eq_false_iff_eq.mpr c18
               clear c18
               by_cases c19:t186.toList=([102,105,108,101]:List UInt8)
               ·rw [if_pos c19] at H
                have c19b0:(t186.toList==([102,105,108,101]:List UInt8))=true:=beq_iff_eq.mpr c19
                have c19b1:(t186.toList != ([102,105,108,101]:List UInt8))=false:=bne_eq_false_iff_eq.mpr c19
                clear c19
                by_cases c20:x7_1.length < 5864062014805
                ·rw [if_pos c20] at H
                 have LMc20:=Aside0.mk c20
                 clear c20
                 obtain ⟨y194,hy194⟩:∃ y_:List (List Int),y_=(x7_1++[t187]):=⟨_,rfl⟩
                 replace H:(understudyref23_Parse.l0 kj11 a0 y194 x8_1 x9_1 (wrap64 (x12_1 + 1)) (wrap64 (x11_1 + 1)) (wrap64 (x12_1 + 1)))=some (r1,r2,r3,r4,r5):=by first|(rw [hy194];with_reducible exact H)|(have H2_:=(Option.bind_some _ _).symm.trans H;rw [hy194];with_reducible exact H2_)|(have H2_:=(Option.bind_some _ _).symm.trans H;with_reducible exact H2_)|with_reducible exact H|(rw [hy194];exact H)|exact H
                 have Ny194:=Aside0.mk hy194
                 clear hy194
                 have H':=Aside0.mk H
                 clear H
                 go_wp2_with (first|((with_reducible refine gate_callee (f:=11) rfl ?_);refine goesL_ (some 56) rfl rfl Tryz.func11 (by kernel_rfl) rfl #[.string (a0.extract (x10_1:Int).toNat (x12_1:Int).toNat)] rfl (by (try simp only [List.map_toArray,List.map_cons,List.map_nil]);first|done|rfl|(simp only [List.length_drop,List.length_take];rfl)) ?_;(with_reducible refine (understudyref23_Line.calls kj11 (a0.extract (x10_1:Int).toNat (x12_1:Int).toNat) t186 t187 t188 t189 _ A17.out).mono ?_);rintro e w21 ⟨v190,v192,rfl,ho0,ho1,hb⟩;refine ⟨_,rfl,?_⟩;have n0_:=Aside0.mk (Kd.S_elder' (by (with_reducible repeat (first|apply Kd.S_alloc|apply Kd.S_drewN|apply Kd.S_drew));exact HO_7.out) (Kd.R_base ho0) hb);have n1_:=Aside0.mk (Kd.R_below (by (with_reducible repeat (first|apply Kd.R_alloc|apply Kd.R_drewN|apply Kd.R_drew));exact HO_8.out) hb);have n2_:=Aside0.mk (Kd.R_lower ho0 (below_size (by repeat (first|(with_reducible first|exact HB.out|apply below_alloc|apply pw_below_drewN|apply below_drew1)|exact HB.out))));have n3_:=Aside0.mk (Kd.R_lower ho1 (below_size (by repeat (first|(with_reducible first|exact HB.out|apply below_alloc|apply pw_below_drewN|apply below_drew1)|exact HB.out))));have n4_:=Aside0.mk (below_step (by repeat (first|(with_reducible first|exact HB.out|apply below_alloc|apply pw_below_drewN|apply below_drew1)|exact HB.out)) hb);clear HO_7;clear HO_8;clear HB;have HO_7:=n0_;have HO_8:=n1_;have HO191:=n2_;have HO193:=n3_;have HB:=n4_;clear n0_ n1_ n2_ n3_ n4_;(try clear hb);(try clear hb2);(try clear hk);(try clear hi);(try clear ho0);(try clear ho1);obtain ⟨Ao23,co23,eo23⟩:=Kd.R_slice HO191.out;subst eo23)|((with_reducible refine gate_builtin (b:=.append) (xs:=#[.tmp 77,.tmp 79]) rfl ?_);at_builtin;refine Kd.S_append (Kd.slice 5 (Kd.int .u8)) (w0:=w) w.heap.size rfl (.tmp 77) (.tmp 79) 22 45 (.slice none 0 0) 24 rfl Tryz.underlying22 info45 rfl (by decide) (by omega) u7 x7_1 t187 [.slice Ao23 t187.length co23] (fun _ => True) (fun k_ => some k_=(.slice Ao23 t187.length co23:Value).ownBlock) rfl rfl ?aP (fun k_ hk_ => ((Kd.R_mono (ok':=fun k_ => ((fun _ => True)) k_∧some k_ ≠ (u7:Value).ownBlock) (Kd.R_apart' (HO191.out) (Kd.S_typed HO_7.out) (by decide)) (fun k_ hk => ⟨trivial,hk.2⟩))).1 k_ hk_.symm) ?aF ?aO ?aB ?aS ?aL ?_;(case aP => exact Kd.M_row (Kd.R_mono (Kd.R_tight rfl (Kd.R_mono (ok':=fun k_ => ((fun _ => True)) k_∧some k_ ≠ (u7:Value).ownBlock) (Kd.R_apart' (HO191.out) (Kd.S_typed HO_7.out) (by decide)) (fun k_ hk => ⟨trivial,hk.2⟩))) (fun _ h_ => h_)));(case aB => exact (by repeat (first|(with_reducible first|exact HB.out|apply below_alloc|apply pw_below_drewN|apply below_drew1)|exact HB.out)));(case aF => exact (fun _ _ => trivial));(case aO => exact (by (with_reducible repeat (first|apply Kd.S_alloc|apply Kd.S_drewN|apply Kd.S_drew));exact Kd.S_mono HO_7.out (fun k_ hk => ⟨trivial,fun e_ => hk.2 e_⟩)));(case aS => exact (below_size (by repeat (first|(with_reducible first|exact HB.out|apply below_alloc|apply pw_below_drewN|apply below_drew1)|exact HB.out))));(case aL => have:=LMc20.out;omega);intro v195 w22 ho hb hg hat;rw [← Ny194.out] at ho;have n0_:=Aside0.mk (Kd.R_over' (by (with_reducible repeat (first|apply Kd.R_alloc|apply Kd.R_drewN|apply Kd.R_drew));exact HO_8.out) (Kd.S_typed (by (with_reducible repeat (first|apply Kd.S_alloc|apply Kd.S_drewN|apply Kd.S_drew));exact HO_7.out)) (by decide) hg);have n1_:=Aside0.mk (Kd.R_over' (by (with_reducible repeat (first|apply Kd.R_alloc|apply Kd.R_drewN|apply Kd.R_drew));exact HO193.out) (Kd.S_typed (by (with_reducible repeat (first|apply Kd.S_alloc|apply Kd.S_drewN|apply Kd.S_drew));exact HO_7.out)) (by decide) hg);have n2_:=Aside0.mk (hb);have n3_:=Aside0.mk (ho);clear HO_8;clear HO193;clear HB;clear HO_7;clear HO191;have HO_8:=n0_;have HO193:=n1_;have HB:=n2_;have HO196:=n3_;clear n0_ n1_ n2_ n3_;clear ho hb hg hat))
                 go_roundg kj11
                 case measure => have:=HK1.out;have:=HJ3.out;have:=HJ11.out;omega
                 case rel => exact ⟨(y194),(x8_1),(x9_1),((wrap64 (x12_1 + 1))),((wrap64 (x11_1 + 1))),(wrap64 (x12_1 + 1)),(by first|rfl|(simp;done)|(simp [*];done)),(by first|rfl|(simp;done)|(simp [*];done)),(by first|rfl|(simp;done)|(simp [*];done)),(by first|rfl|(simp;done)|(simp [*];done)),H',⟨by have:=HK1.out;have:=HJ3.out;have:=HJ11.out;omega⟩,⟨by (with_reducible repeat (first|apply Kd.S_alloc|apply Kd.S_drewN|apply Kd.S_drew));exact HO196.out⟩,⟨by (with_reducible repeat (first|apply Kd.R_alloc|apply Kd.R_drewN|apply Kd.R_drew));exact HO_8.out⟩,⟨by repeat (first|(with_reducible first|exact HB.out|apply below_alloc|apply pw_below_drewN|apply below_drew1)|exact HB.out)⟩⟩
                ·rw [if_neg c20] at H
                 exact absurd H (by simp)
               ·rw [if_neg c19] at H
                have c19b0:(t186.toList==([102,105,108,101]:List UInt8))=false:=beq_eq_false_iff_ne.mpr c19
                have c19b1:(t186.toList != ([102,105,108,101]:List UInt8))=true:=bne_iff_ne.mpr c19
                by_cases c24:t186.toList=([109,97,99,104,105,110,101,115]:List UInt8)
                ·rw [if_pos c24] at H
                 have c24b0:(t186.toList==([109,97,99,104,105,110,101,115]:List UInt8))=true:=beq_iff_eq.mpr c24
                 have c24b1:(t186.toList != ([109,97,99,104,105,110,101,115]:List UInt8))=false:=bne_eq_false_iff_eq.mpr c24
                 clear c24
                 by_cases c25:0 < (t188.length:Int)
                 ·rw [if_pos c25] at H
                  have c25b0:decide (0 < (t188.length:Int))=true:=decide_eq_true c25
                  have c25b1:decide (0 < t188.length)=true:=decide_eq_true (by omega)
                  clear c25
                  by_cases c26:(rd t188 0) < (-2147483648)
                  ·rw [if_pos c26] at H
                   have c26b0:decide ((rd t188 0) < (-2147483648))=true:=decide_eq_true c26
                   clear c26
                   simp only [Option.some.injEq,Prod.mk.injEq] at H
                   obtain ⟨rfl,rfl,rfl,rfl,rfl⟩:=H
                   go_wp2_with (first|((with_reducible refine gate_callee (f:=11) rfl ?_);refine goesL_ (some 56) rfl rfl Tryz.func11 (by kernel_rfl) rfl #[.string (a0.extract (x10_1:Int).toNat (x12_1:Int).toNat)] rfl (by (try simp only [List.map_toArray,List.map_cons,List.map_nil]);first|done|rfl|(simp only [List.length_drop,List.length_take];rfl)) ?_;(with_reducible refine (understudyref23_Line.calls kj11 (a0.extract (x10_1:Int).toNat (x12_1:Int).toNat) t186 t187 t188 t189 _ A17.out).mono ?_);rintro e w27 ⟨v190,v192,rfl,ho0,ho1,hb⟩;refine ⟨_,rfl,?_⟩;have n0_:=Aside0.mk (Kd.S_elder' (by (with_reducible repeat (first|apply Kd.S_alloc|apply Kd.S_drewN|apply Kd.S_drew));exact HO_7.out) (Kd.R_base ho0) hb);have n1_:=Aside0.mk (Kd.R_below (by (with_reducible repeat (first|apply Kd.R_alloc|apply Kd.R_drewN|apply Kd.R_drew));exact HO_8.out) hb);have n2_:=Aside0.mk (Kd.R_lower ho0 (below_size (by repeat (first|(with_reducible first|exact HB.out|apply below_alloc|apply pw_below_drewN|apply below_drew1)|exact HB.out))));have n3_:=Aside0.mk (Kd.R_lower ho1 (below_size (by repeat (first|(with_reducible first|exact HB.out|apply below_alloc|apply pw_below_drewN|apply below_drew1)|exact HB.out))));have n4_:=Aside0.mk (below_step (by repeat (first|(with_reducible first|exact HB.out|apply below_alloc|apply pw_below_drewN|apply below_drew1)|exact HB.out)) hb);clear HO_7;clear HO_8;clear HB;have HO_7:=n0_;have HO_8:=n1_;have HO191:=n2_;have HO193:=n3_;have HB:=n4_;clear n0_ n1_ n2_ n3_ n4_;(try clear hb);(try clear hb2);(try clear hk);(try clear hi);(try clear ho0);(try clear ho1);obtain ⟨Ao28,co28,eo28⟩:=Kd.R_slice HO193.out;subst eo28;have p197:0≤(0:Int):=(by omega);have q197:0 < (t188.length:Int):=of_decide_eq_true (by first|(with_reducible assumption)|assumption);obtain ⟨ad197,e197,hx197_0⟩:=Kd.at_int (Kd.R_reads' HO193.out).2.2 0 p197 q197;cases e197;have qi197:(0 < t188.length)=True:=eq_true (by omega);(try rw [show ((0:Int)).toNat=0 from rfl] at hx197_0);(try rw [Addr.add_zero'] at hx197_0);replace p197:=eq_true p197;replace q197:=eq_true q197))
                   refine bodyPost_ret (results_list (rs:=[.tmp 2,.tmp 3,.tmp 4,.tmp 5,.tmp 6]) rfl (by simp) (.tmp (.tmp (.tmp (.tmp (.tmp .nil)))))) rfl ?_
                   exact ⟨_,_,by first|rfl|(simp [errW_none,errW_some] <;> rfl)|(simp [*,errW_none,errW_some] <;> rfl),by first|exact Kd.S_nil _ _ _ _ _|exact Kd.N_nil _ _ _ _ _|exact Kd.V_nil _ _ _ _ _|exact Kd.Q_nil _ _ _ _ _|exact Kd.R_nil _ _ _ _ _,by first|exact Kd.R_nil _ _ _ _ _|exact Kd.N_nil _ _ _ _ _|exact Kd.V_nil _ _ _ _ _|exact Kd.Q_nil _ _ _ _ _|exact Kd.S_nil _ _ _ _ _,by repeat (first|(with_reducible first|exact HB.out|apply below_alloc|apply pw_below_drewN|apply below_drew1)|exact HB.out)⟩
                  ·rw [if_neg c26] at H
                   have c26b0:decide ((rd t188 0) < (-2147483648))=false:=decide_eq_false c26
                   clear c26
                   by_cases c29:(rd t188 0) > 2147483647
                   ·rw [if_pos c29] at H
                    have c29b0:decide (2147483647 < (rd t188 0))=true:=decide_eq_true c29
                    clear c29
                    simp only [Option.some.injEq,Prod.mk.injEq] at H
                    obtain ⟨rfl,rfl,rfl,rfl,rfl⟩:=H
                    go_wp2_with (first|((with_reducible refine gate_callee (f:=11) rfl ?_);refine goesL_ (some 56) rfl rfl Tryz.func11 (by kernel_rfl) rfl #[.string (a0.extract (x10_1:Int).toNat (x12_1:Int).toNat)] rfl (by (try simp only [List.map_toArray,List.map_cons,List.map_nil]);first|done|rfl|(simp only [List.length_drop,List.length_take];rfl)) ?_;(with_reducible refine (understudyref23_Line.calls kj11 (a0.extract (x10_1:Int).toNat (x12_1:Int).toNat) t186 t187 t188 t189 _ A17.out).mono ?_);rintro e w30 ⟨v190,v192,rfl,ho0,ho1,hb⟩;refine ⟨_,rfl,?_⟩;have n0_:=Aside0.mk (Kd.S_elder' (by (with_reducible repeat (first|apply Kd.S_alloc|apply Kd.S_drewN|apply Kd.S_drew));exact HO_7.out) (Kd.R_base ho0) hb);have n1_:=Aside0.mk (Kd.R_below (by (with_reducible repeat (first|apply Kd.R_alloc|apply Kd.R_drewN|apply Kd.R_drew));exact HO_8.out) hb);have n2_:=Aside0.mk (Kd.R_lower ho0 (below_size (by repeat (first|(with_reducible first|exact HB.out|apply below_alloc|apply pw_below_drewN|apply below_drew1)|exact HB.out))));have n3_:=Aside0.mk (Kd.R_lower ho1 (below_size (by repeat (first|(with_reducible first|exact HB.out|apply below_alloc|apply pw_below_drewN|apply below_drew1)|exact HB.out))));have n4_:=Aside0.mk (below_step (by repeat (first|(with_reducible first|exact HB.out|apply below_alloc|apply pw_below_drewN|apply below_drew1)|exact HB.out)) hb);clear HO_7;clear HO_8;clear HB;have HO_7:=n0_;have HO_8:=n1_;have HO191:=n2_;have HO193:=n3_;have HB:=n4_;clear n0_ n1_ n2_ n3_ n4_;(try clear hb);(try clear hb2);(try clear hk);(try clear hi);(try clear ho0);(try clear ho1);obtain ⟨Ao31,co31,eo31⟩:=Kd.R_slice HO193.out;subst eo31;have p197:0≤(0:Int):=(by omega);have q197:0 < (t188.length:Int):=of_decide_eq_true (by first|(with_reducible assumption)|assumption);obtain ⟨ad197,e197,hx197_0⟩:=Kd.at_int (Kd.R_reads' HO193.out).2.2 0 p197 q197;cases e197;have qi197:(0 < t188.length)=True:=eq_true (by omega);(try rw [show ((0:Int)).toNat=0 from rfl] at hx197_0);(try rw [Addr.add_zero'] at hx197_0);replace p197:=eq_true p197;replace q197:=eq_true q197;have p198:0≤(0:Int):=(by omega);have q198:0 < (t188.length:Int):=of_decide_eq_true (by first|(with_reducible assumption)|assumption);obtain ⟨ad198,e198,hx198_0⟩:=Kd.at_int (Kd.R_reads' HO193.out).2.2 0 p198 q198;obtain rfl:ad197=ad198:=(by injection e198);have qi198:(0 < t188.length)=True:=eq_true (by omega);(try rw [show ((0:Int)).toNat=0 from rfl] at hx198_0);(try rw [Addr.add_zero'] at hx198_0);replace p198:=eq_true p198;replace q198:=eq_true q198))
                    refine bodyPost_ret (results_list (rs:=[.tmp 2,.tmp 3,.tmp 4,.tmp 5,.tmp 6]) rfl (by simp) (.tmp (.tmp (.tmp (.tmp (.tmp .nil)))))) rfl ?_
                    exact ⟨_,_,by first|rfl|(simp [errW_none,errW_some] <;> rfl)|(simp [*,errW_none,errW_some] <;> rfl),by first|exact Kd.S_nil _ _ _ _ _|exact Kd.N_nil _ _ _ _ _|exact Kd.V_nil _ _ _ _ _|exact Kd.Q_nil _ _ _ _ _|exact Kd.R_nil _ _ _ _ _,by first|exact Kd.R_nil _ _ _ _ _|exact Kd.N_nil _ _ _ _ _|exact Kd.V_nil _ _ _ _ _|exact Kd.Q_nil _ _ _ _ _|exact Kd.S_nil _ _ _ _ _,by repeat (first|(with_reducible first|exact HB.out|apply below_alloc|apply pw_below_drewN|apply below_drew1)|exact HB.out)⟩
                   ·rw [if_neg c29] at H
                    have c29b0:decide (2147483647 < (rd t188 0))=false:=decide_eq_false c29
                    clear c29
                    have H':=Aside0.mk H
                    clear H
                    go_wp2_with (first|((with_reducible refine gate_callee (f:=11) rfl ?_);refine goesL_ (some 56) rfl rfl Tryz.func11 (by kernel_rfl) rfl #[.string (a0.extract (x10_1:Int).toNat (x12_1:Int).toNat)] rfl (by (try simp only [List.map_toArray,List.map_cons,List.map_nil]);first|done|rfl|(simp only [List.length_drop,List.length_take];rfl)) ?_;(with_reducible refine (understudyref23_Line.calls kj11 (a0.extract (x10_1:Int).toNat (x12_1:Int).toNat) t186 t187 t188 t189 _ A17.out).mono ?_);rintro e w32 ⟨v190,v192,rfl,ho0,ho1,hb⟩;refine ⟨_,rfl,?_⟩;have n0_:=Aside0.mk (Kd.S_elder' (by (with_reducible repeat (first|apply Kd.S_alloc|apply Kd.S_drewN|apply Kd.S_drew));exact HO_7.out) (Kd.R_base ho0) hb);have n1_:=Aside0.mk (Kd.R_below (by (with_reducible repeat (first|apply Kd.R_alloc|apply Kd.R_drewN|apply Kd.R_drew));exact HO_8.out) hb);have n2_:=Aside0.mk (Kd.R_lower ho0 (below_size (by repeat (first|(with_reducible first|exact HB.out|apply below_alloc|apply pw_below_drewN|apply below_drew1)|exact HB.out))));have n3_:=Aside0.mk (Kd.R_lower ho1 (below_size (by repeat (first|(with_reducible first|exact HB.out|apply below_alloc|apply pw_below_drewN|apply below_drew1)|exact HB.out))));have n4_:=Aside0.mk (below_step (by repeat (first|(with_reducible first|exact HB.out|apply below_alloc|apply pw_below_drewN|apply below_drew1)|exact HB.out)) hb);clear HO_7;clear HO_8;clear HB;have HO_7:=n0_;have HO_8:=n1_;have HO191:=n2_;have HO193:=n3_;have HB:=n4_;clear n0_ n1_ n2_ n3_ n4_;(try clear hb);(try clear hb2);(try clear hk);(try clear hi);(try clear ho0);(try clear ho1);obtain ⟨Ao33,co33,eo33⟩:=Kd.R_slice HO193.out;subst eo33;have p197:0≤(0:Int):=(by omega);have q197:0 < (t188.length:Int):=of_decide_eq_true (by first|(with_reducible assumption)|assumption);obtain ⟨ad197,e197,hx197_0⟩:=Kd.at_int (Kd.R_reads' HO193.out).2.2 0 p197 q197;cases e197;have qi197:(0 < t188.length)=True:=eq_true (by omega);(try rw [show ((0:Int)).toNat=0 from rfl] at hx197_0);(try rw [Addr.add_zero'] at hx197_0);replace p197:=eq_true p197;replace q197:=eq_true q197;have p198:0≤(0:Int):=(by omega);have q198:0 < (t188.length:Int):=of_decide_eq_true (by first|(with_reducible assumption)|assumption);obtain ⟨ad198,e198,hx198_0⟩:=Kd.at_int (Kd.R_reads' HO193.out).2.2 0 p198 q198;obtain rfl:ad197=ad198:=(by injection e198);have qi198:(0 < t188.length)=True:=eq_true (by omega);(try rw [show ((0:Int)).toNat=0 from rfl] at hx198_0);(try rw [Addr.add_zero'] at hx198_0);replace p198:=eq_true p198;replace q198:=eq_true q198;have p199:0≤(0:Int):=(by omega);have q199:0 < (t188.length:Int):=of_decide_eq_true (by first|(with_reducible assumption)|assumption);obtain ⟨ad199,e199,hx199_0⟩:=Kd.at_int (Kd.R_reads' HO193.out).2.2 0 p199 q199;obtain rfl:ad197=ad199:=(by injection e199);have qi199:(0 < t188.length)=True:=eq_true (by omega);(try rw [show ((0:Int)).toNat=0 from rfl] at hx199_0);(try rw [Addr.add_zero'] at hx199_0);replace p199:=eq_true p199;replace q199:=eq_true q199))
                    go_roundg kj11
                    case measure => have:=HK1.out;have:=HJ3.out;have:=HJ11.out;omega
                    case rel => exact ⟨(x7_1),(x8_1),(rd t188 0),((wrap64 (x12_1 + 1))),((wrap64 (x11_1 + 1))),(wrap64 (x12_1 + 1)),(by first|rfl|(simp;done)|(simp [*];done)),(by first|rfl|(simp;done)|(simp [*];done)),(by first|rfl|(simp;done)|(simp [*];done)),(by first|rfl|(simp;done)|(simp [*];done)),H',⟨by have:=HK1.out;have:=HJ3.out;have:=HJ11.out;omega⟩,⟨by (with_reducible repeat (first|apply Kd.S_alloc|apply Kd.S_drewN|apply Kd.S_drew));exact Kd.S_mono HO_7.out (fun _ hk => trivial)⟩,⟨by (with_reducible repeat (first|apply Kd.R_alloc|apply Kd.R_drewN|apply Kd.R_drew));exact HO_8.out⟩,⟨by repeat (first|(with_reducible first|exact HB.out|apply below_alloc|apply pw_below_drewN|apply below_drew1)|exact HB.out)⟩⟩
                 ·rw [if_neg c25] at H
                  exact absurd H (by simp)
                ·rw [if_neg c24] at H
                 have c24b0:(t186.toList==([109,97,99,104,105,110,101,115]:List UInt8))=false:=beq_eq_false_iff_ne.mpr c24
                 have c24b1:(t186.toList != ([109,97,99,104,105,110,101,115]:List UInt8))=true:=bne_iff_ne.mpr c24
                 replace H:=Option.bind_eq_some_iff.mp H
                 obtain ⟨⟨t200,t201,t202,t203,t204⟩,A340,H⟩:=H
                 replace H:(if x8_1.length < 4398046511104 then (understudyref23_Parse.l0 kj11 a0 x7_1 (x8_1++[(⟨t200,t201,t202,t203⟩:S50)]) x9_1 (wrap64 (x12_1 + 1)) (wrap64 (x11_1 + 1)) (wrap64 (x12_1 + 1))) else (none))=some (r1,r2,r3,r4,r5):=H
                 have A34:=Aside0.mk A340
                 clear A340
                 by_cases c35:x8_1.length < 4398046511104
                 ·rw [if_pos c35] at H
                  have LMc35:=Aside0.mk c35
                  clear c35
                  obtain ⟨y206,hy206⟩:∃ y_:List (S50),y_=(x8_1++[(⟨t200,t201,t202,t203⟩:S50)]):=⟨_,rfl⟩
                  replace H:(understudyref23_Parse.l0 kj11 a0 x7_1 y206 x9_1 (wrap64 (x12_1 + 1)) (wrap64 (x11_1 + 1)) (wrap64 (x12_1 + 1)))=some (r1,r2,r3,r4,r5):=by first|(rw [hy206];with_reducible exact H)|(have H2_:=(Option.bind_some _ _).symm.trans H;rw [hy206];with_reducible exact H2_)|(have H2_:=(Option.bind_some _ _).symm.trans H;with_reducible exact H2_)|with_reducible exact H|(rw [hy206];exact H)|exact H
                  have Ny206:=Aside0.mk hy206
                  clear hy206
                  have H':=Aside0.mk H
                  clear H
                  go_wp2_with (first|((with_reducible refine gate_callee (f:=11) rfl ?_);refine goesL_ (some 56) rfl rfl Tryz.func11 (by kernel_rfl) rfl #[.string (a0.extract (x10_1:Int).toNat (x12_1:Int).toNat)] rfl (by (try simp only [List.map_toArray,List.map_cons,List.map_nil]);first|done|rfl|(simp only [List.length_drop,List.length_take];rfl)) ?_;(with_reducible refine (understudyref23_Line.calls kj11 (a0.extract (x10_1:Int).toNat (x12_1:Int).toNat) t186 t187 t188 t189 _ A17.out).mono ?_);rintro e w36 ⟨v190,v192,rfl,ho0,ho1,hb⟩;refine ⟨_,rfl,?_⟩;have n0_:=Aside0.mk (Kd.S_elder' (by (with_reducible repeat (first|apply Kd.S_alloc|apply Kd.S_drewN|apply Kd.S_drew));exact HO_7.out) (Kd.R_base ho0) hb);have n1_:=Aside0.mk (Kd.R_below (by (with_reducible repeat (first|apply Kd.R_alloc|apply Kd.R_drewN|apply Kd.R_drew));exact HO_8.out) hb);have n2_:=Aside0.mk (Kd.R_lower ho0 (below_size (by repeat (first|(with_reducible first|exact HB.out|apply below_alloc|apply pw_below_drewN|apply below_drew1)|exact HB.out))));have n3_:=Aside0.mk (Kd.R_lower ho1 (below_size (by repeat (first|(with_reducible first|exact HB.out|apply below_alloc|apply pw_below_drewN|apply below_drew1)|exact HB.out))));have n4_:=Aside0.mk (below_step (by repeat (first|(with_reducible first|exact HB.out|apply below_alloc|apply pw_below_drewN|apply below_drew1)|exact HB.out)) hb);clear HO_7;clear HO_8;clear HB;have HO_7:=n0_;have HO_8:=n1_;have HO191:=n2_;have HO193:=n3_;have HB:=n4_;clear n0_ n1_ n2_ n3_ n4_;(try clear hb);(try clear hb2);(try clear hk);(try clear hi);(try clear ho0);(try clear ho1);obtain ⟨Ao37,co37,eo37⟩:=Kd.R_slice HO193.out;subst eo37)|((with_reducible refine gate_callee (f:=12) rfl ?_);refine goesL_ (some 68) rfl rfl Tryz.func12 (by kernel_rfl) rfl #[.string t186,.slice Ao37 t188.length co37] rfl (by (try simp only [List.map_toArray,List.map_cons,List.map_nil]);first|done|rfl|(simp only [List.length_drop,List.length_take];rfl)) ?_;(with_reducible refine (understudyref23_act.calls kj11 t186 _ _ t188 t200 t201 t202 t203 t204 _ ?side1 ?side2 A34.out).mono ?_);(case side1 => repeat (first|exact (Kd.R_reads' HO193.out).2.2|(with_reducible refine Kd.C_alloc ?_ _)|(with_reducible refine Kd.C_drewN ?_ _)|(with_reducible refine Kd.C_drew ?_)));(case side2 => exact (Kd.R_reads' HO193.out).2.1);rintro e w38 ⟨rfl,hb⟩;refine ⟨_,rfl,?_⟩;have n0_:=Aside0.mk (Kd.S_below (by (with_reducible repeat (first|apply Kd.S_alloc|apply Kd.S_drewN|apply Kd.S_drew));exact HO_7.out) hb);have n1_:=Aside0.mk (Kd.R_below (by (with_reducible repeat (first|apply Kd.R_alloc|apply Kd.R_drewN|apply Kd.R_drew));exact HO_8.out) hb);have n2_:=Aside0.mk (Kd.R_below (by (with_reducible repeat (first|apply Kd.R_alloc|apply Kd.R_drewN|apply Kd.R_drew));exact HO191.out) hb);have n3_:=Aside0.mk (Kd.R_below (by (with_reducible repeat (first|apply Kd.R_alloc|apply Kd.R_drewN|apply Kd.R_drew));exact HO193.out) hb);have n4_:=Aside0.mk (below_step (by repeat (first|(with_reducible first|exact HB.out|apply below_alloc|apply pw_below_drewN|apply below_drew1)|exact HB.out)) hb);clear HO_7;clear HO_8;clear HO191;clear HO193;clear HB;have HO_7:=n0_;have HO_8:=n1_;have HO191:=n2_;have HO193:=n3_;have HB:=n4_;clear n0_ n1_ n2_ n3_ n4_;(try clear hb);(try clear hb2);(try clear hk);(try clear hi))|((with_reducible refine gate_dst (N:=18) rfl ?_);refine box_event ?hg (N:=18) ?hd (cs:=#[.int .i64 0,.int .i64 0,.int .i64 0,.int .i64 0]) (t:=50) ?hr ?_;(case hd => rfl);(case hg => rfl);(case hr => first|(go_simp;done)|(go_simp;rfl));intro gb205 hg w39 hbox hb;have n0_:=Aside0.mk (Kd.S_below (by (with_reducible repeat (first|apply Kd.S_alloc|apply Kd.S_drewN|apply Kd.S_drew));exact HO_7.out) hb);have n1_:=Aside0.mk (Kd.R_below (Kd.R_elderB (by (with_reducible repeat (first|apply Kd.R_alloc|apply Kd.R_drewN|apply Kd.R_drew));exact HO_8.out) gb205 (Nat.le_of_eq hg.symm)) hb);have n2_:=Aside0.mk (Kd.R_below (by (with_reducible repeat (first|apply Kd.R_alloc|apply Kd.R_drewN|apply Kd.R_drew));exact HO191.out) hb);have n3_:=Aside0.mk (Kd.R_below (by (with_reducible repeat (first|apply Kd.R_alloc|apply Kd.R_drewN|apply Kd.R_drew));exact HO193.out) hb);have n4_:=Aside0.mk (below_step (by repeat (first|(with_reducible first|exact HB.out|apply below_alloc|apply pw_below_drewN|apply below_drew1)|exact HB.out)) hb);have n5_:=Aside0.mk (hbox);have n6_:=Aside0.mk ((by rw [hg];exact (below_size (by repeat (first|(with_reducible first|exact HB.out|apply below_alloc|apply pw_below_drewN|apply below_drew1)|exact HB.out))):w.heap.size≤gb205));have n7_:=Aside0.mk ((by rw [hg];exact (below_size (by repeat (first|(with_reducible first|exact HB.out|apply below_alloc|apply pw_below_drewN|apply below_drew1)|exact HB.out))):w.heap.size≤gb205));clear HO_7;clear HO_8;clear HO191;clear HO193;clear HB;have HO_7:=n0_;have HO_8:=n1_;have HO191:=n2_;have HO193:=n3_;have HB:=n4_;have BK205:=n5_;have GW205:=n6_;have GE205:=n7_;clear n0_ n1_ n2_ n3_ n4_ n5_ n6_ n7_;clear hb hbox hg;have hcz40_0:w39.cell? ⟨gb205,0,none⟩=some (.int .i64 0):=(blk_cell BK205.out 0).trans rfl;have hcz40_1:w39.cell? ⟨gb205,1,none⟩=some (.int .i64 0):=(blk_cell BK205.out 1).trans rfl;have hcz40_2:w39.cell? ⟨gb205,2,none⟩=some (.int .i64 0):=(blk_cell BK205.out 2).trans rfl;have hcz40_3:w39.cell? ⟨gb205,3,none⟩=some (.int .i64 0):=(blk_cell BK205.out 3).trans rfl;have hfz40_0:=blk_frozen BK205.out 0;have hfz40_1:=blk_frozen BK205.out 1;have hfz40_2:=blk_frozen BK205.out 2;have hfz40_3:=blk_frozen BK205.out 3)|((with_reducible refine gate_builtin (b:=.append) (xs:=#[.tmp 71,.tmp 73]) rfl ?_);at_builtin;refine Kd.R_append k50 (w0:=w) w.heap.size rfl (.tmp 71) (.tmp 73) 23 50 (.agg #[(.int .i64 0),(.int .i64 0),(.int .i64 0),(.int .i64 0)]) 32 rfl Tryz.underlying23 info50 rfl (by decide) (by omega) u8 x8_1 (⟨t200,t201,t202,t203⟩:S50) [.int .i64 t200,.int .i64 t201,.int .i64 t202,.int .i64 t203] (fun k_ => k_ ≠ gb205) (fun _ => False) rfl (by first|(go_simp;done)|(go_simp;rfl)) ?aP (fun _ hk => hk.elim) ?aF ?aO ?aB ?aS ?aL ?_;(case aP => exact k50_mkM _ _ _ (⟨t200,t201,t202,t203⟩:S50));(case aB => exact (by repeat (first|(with_reducible first|exact HB.out|apply below_alloc|apply pw_below_drewN|apply below_drew1|refine below_set ?_ GE205.out)|exact HB.out)));(case aF => exact (fun k_ hk => Kd.freshB (g:=gb205) (o:=.cells #[.int .i64 t200,.int .i64 t201,.int .i64 t202,.int .i64 t203] 50 (0,0)) (by (with_reducible repeat (first|refine blk_drewN ?_ _|refine blk_drew ?_|refine blk_alloc ?_ _));refine blk_put (cs:=#[.int .i64 t200,.int .i64 t201,.int .i64 t202,.int .i64 0]) ?_ 3 _ rfl;(with_reducible repeat (first|refine blk_drewN ?_ _|refine blk_drew ?_|refine blk_alloc ?_ _));refine blk_put (cs:=#[.int .i64 t200,.int .i64 t201,.int .i64 0,.int .i64 0]) ?_ 2 _ rfl;(with_reducible repeat (first|refine blk_drewN ?_ _|refine blk_drew ?_|refine blk_alloc ?_ _));refine blk_put (cs:=#[.int .i64 t200,.int .i64 0,.int .i64 0,.int .i64 0]) ?_ 1 _ rfl;(with_reducible repeat (first|refine blk_drewN ?_ _|refine blk_drew ?_|refine blk_alloc ?_ _));refine blk_put (cs:=#[.int .i64 0,.int .i64 0,.int .i64 0,.int .i64 0]) ?_ 0 _ rfl;(with_reducible repeat (first|refine blk_drewN ?_ _|refine blk_drew ?_|refine blk_alloc ?_ _));exact BK205.out) k_ hk));(case aO => exact (by (with_reducible repeat (first|apply Kd.R_alloc|apply Kd.R_drewN|apply Kd.R_drew));exact Kd.R_mono (Kd.R_far (p:=⟨gb205,3,none⟩) (Kd.R_far (p:=⟨gb205,2,none⟩) (Kd.R_far (p:=⟨gb205,1,none⟩) (Kd.R_far (p:=⟨gb205,0,none⟩) (Kd.R_mono HO_8.out (fun k_ hk => (⟨hk,hk.2⟩:_∧k_ ≠ gb205))) (fun _ hk => hk.2) (.int .i64 t200)) (fun _ hk => hk.2) (.int .i64 t201)) (fun _ hk => hk.2) (.int .i64 t202)) (fun _ hk => hk.2) (.int .i64 t203)) (fun _ hk => hk.1.2)));(case aS => exact (below_size (by repeat (first|(with_reducible first|exact HB.out|apply below_alloc|apply pw_below_drewN|apply below_drew1|refine below_set ?_ GE205.out)|exact HB.out))));(case aL => have:=LMc35.out;omega);intro v207 w41 ho hb hg hat;rw [← Ny206.out] at ho;have n0_:=Aside0.mk (Kd.S_over' (by (with_reducible repeat (first|apply Kd.S_alloc|apply Kd.S_drewN|apply Kd.S_drew));exact (Kd.S_mono (Kd.S_far (p:=⟨gb205,3,none⟩) (Kd.S_far (p:=⟨gb205,2,none⟩) (Kd.S_far (p:=⟨gb205,1,none⟩) (Kd.S_far (p:=⟨gb205,0,none⟩) (Kd.S_types HO_7.out BK205.out (by decide)) (fun _ hk => hk.2) (.int .i64 t200)) (fun _ hk => hk.2) (.int .i64 t201)) (fun _ hk => hk.2) (.int .i64 t202)) (fun _ hk => hk.2) (.int .i64 t203)) (fun _ h_ => h_.1))) (Kd.R_typed (by (with_reducible repeat (first|apply Kd.R_alloc|apply Kd.R_drewN|apply Kd.R_drew));exact (Kd.R_mono (Kd.R_far (p:=⟨gb205,3,none⟩) (Kd.R_far (p:=⟨gb205,2,none⟩) (Kd.R_far (p:=⟨gb205,1,none⟩) (Kd.R_far (p:=⟨gb205,0,none⟩) (Kd.R_mono HO_8.out (fun k_ hk => (⟨hk,hk.2⟩:_∧k_ ≠ gb205))) (fun _ hk => hk.2) (.int .i64 t200)) (fun _ hk => hk.2) (.int .i64 t201)) (fun _ hk => hk.2) (.int .i64 t202)) (fun _ hk => hk.2) (.int .i64 t203)) (fun _ h_ => h_.1)))) (by decide) hg);have n1_:=Aside0.mk (Kd.R_over' (by (with_reducible repeat (first|apply Kd.R_alloc|apply Kd.R_drewN|apply Kd.R_drew));exact (Kd.R_mono (Kd.R_far (p:=⟨gb205,3,none⟩) (Kd.R_far (p:=⟨gb205,2,none⟩) (Kd.R_far (p:=⟨gb205,1,none⟩) (Kd.R_far (p:=⟨gb205,0,none⟩) (Kd.R_types HO191.out BK205.out (by decide)) (fun _ hk => hk.2) (.int .i64 t200)) (fun _ hk => hk.2) (.int .i64 t201)) (fun _ hk => hk.2) (.int .i64 t202)) (fun _ hk => hk.2) (.int .i64 t203)) (fun _ h_ => h_.1))) (Kd.R_typed (by (with_reducible repeat (first|apply Kd.R_alloc|apply Kd.R_drewN|apply Kd.R_drew));exact (Kd.R_mono (Kd.R_far (p:=⟨gb205,3,none⟩) (Kd.R_far (p:=⟨gb205,2,none⟩) (Kd.R_far (p:=⟨gb205,1,none⟩) (Kd.R_far (p:=⟨gb205,0,none⟩) (Kd.R_mono HO_8.out (fun k_ hk => (⟨hk,hk.2⟩:_∧k_ ≠ gb205))) (fun _ hk => hk.2) (.int .i64 t200)) (fun _ hk => hk.2) (.int .i64 t201)) (fun _ hk => hk.2) (.int .i64 t202)) (fun _ hk => hk.2) (.int .i64 t203)) (fun _ h_ => h_.1)))) (by decide) hg);have n2_:=Aside0.mk (Kd.R_over' (by (with_reducible repeat (first|apply Kd.R_alloc|apply Kd.R_drewN|apply Kd.R_drew));exact (Kd.R_mono (Kd.R_far (p:=⟨gb205,3,none⟩) (Kd.R_far (p:=⟨gb205,2,none⟩) (Kd.R_far (p:=⟨gb205,1,none⟩) (Kd.R_far (p:=⟨gb205,0,none⟩) (Kd.R_types HO193.out BK205.out (by decide)) (fun _ hk => hk.2) (.int .i64 t200)) (fun _ hk => hk.2) (.int .i64 t201)) (fun _ hk => hk.2) (.int .i64 t202)) (fun _ hk => hk.2) (.int .i64 t203)) (fun _ h_ => h_.1))) (Kd.R_typed (by (with_reducible repeat (first|apply Kd.R_alloc|apply Kd.R_drewN|apply Kd.R_drew));exact (Kd.R_mono (Kd.R_far (p:=⟨gb205,3,none⟩) (Kd.R_far (p:=⟨gb205,2,none⟩) (Kd.R_far (p:=⟨gb205,1,none⟩) (Kd.R_far (p:=⟨gb205,0,none⟩) (Kd.R_mono HO_8.out (fun k_ hk => (⟨hk,hk.2⟩:_∧k_ ≠ gb205))) (fun _ hk => hk.2) (.int .i64 t200)) (fun _ hk => hk.2) (.int .i64 t201)) (fun _ hk => hk.2) (.int .i64 t202)) (fun _ hk => hk.2) (.int .i64 t203)) (fun _ h_ => h_.1)))) (by decide) hg);have n3_:=Aside0.mk (blk_grown (g:=gb205) (o:=.cells #[.int .i64 t200,.int .i64 t201,.int .i64 t202,.int .i64 t203] 50 (0,0)) (by (with_reducible repeat (first|refine blk_drewN ?_ _|refine blk_drew ?_|refine blk_alloc ?_ _));refine blk_put (cs:=#[.int .i64 t200,.int .i64 t201,.int .i64 t202,.int .i64 0]) ?_ 3 _ rfl;(with_reducible repeat (first|refine blk_drewN ?_ _|refine blk_drew ?_|refine blk_alloc ?_ _));refine blk_put (cs:=#[.int .i64 t200,.int .i64 t201,.int .i64 0,.int .i64 0]) ?_ 2 _ rfl;(with_reducible repeat (first|refine blk_drewN ?_ _|refine blk_drew ?_|refine blk_alloc ?_ _));refine blk_put (cs:=#[.int .i64 t200,.int .i64 0,.int .i64 0,.int .i64 0]) ?_ 1 _ rfl;(with_reducible repeat (first|refine blk_drewN ?_ _|refine blk_drew ?_|refine blk_alloc ?_ _));refine blk_put (cs:=#[.int .i64 0,.int .i64 0,.int .i64 0,.int .i64 0]) ?_ 0 _ rfl;(with_reducible repeat (first|refine blk_drewN ?_ _|refine blk_drew ?_|refine blk_alloc ?_ _));exact BK205.out) hg (Kd.R_away HO_8.out (fun _ hk => hk.2)));have n4_:=Aside0.mk (hb);have n5_:=Aside0.mk (ho);clear HO_7;clear HO191;clear HO193;clear BK205;clear HB;clear HO_8;have HO_7:=n0_;have HO191:=n1_;have HO193:=n2_;have BK205:=n3_;have HB:=n4_;have HO208:=n5_;clear n0_ n1_ n2_ n3_ n4_ n5_;clear ho hb hg hat))
                  go_roundg kj11
                  case measure => have:=HK1.out;have:=HJ3.out;have:=HJ11.out;omega
                  case rel => exact ⟨(x7_1),(y206),(x9_1),((wrap64 (x12_1 + 1))),((wrap64 (x11_1 + 1))),(wrap64 (x12_1 + 1)),(by first|rfl|(simp;done)|(simp [*];done)),(by first|rfl|(simp;done)|(simp [*];done)),(by first|rfl|(simp;done)|(simp [*];done)),(by first|rfl|(simp;done)|(simp [*];done)),H',⟨by have:=HK1.out;have:=HJ3.out;have:=HJ11.out;omega⟩,⟨by (with_reducible repeat (first|apply Kd.S_alloc|apply Kd.S_drewN|apply Kd.S_drew));exact Kd.S_mono HO_7.out (fun _ hk => trivial)⟩,⟨by (with_reducible repeat (first|apply Kd.R_alloc|apply Kd.R_drewN|apply Kd.R_drew));exact Kd.R_mono HO208.out (fun _ hk => trivial)⟩,⟨by repeat (first|(with_reducible first|exact HB.out|apply below_alloc|apply pw_below_drewN|apply below_drew1|refine below_set ?_ GE205.out)|exact HB.out)⟩⟩
                 ·rw [if_neg c35] at H
                  exact absurd H (by simp)
              ·rw [if_neg c18] at H
               have c18b0:(t189==0)=false:=beq_eq_false_iff_ne.mpr c18
               have c18b1:(t189 != 0)=true:=bne_iff_ne.mpr c18
               simp only [Option.some.injEq,Prod.mk.injEq] at H
               obtain ⟨rfl,rfl,rfl,rfl,rfl⟩:=H
               go_wp2_with (first|((with_reducible refine gate_callee (f:=11) rfl ?_);refine goesL_ (some 56) rfl rfl Tryz.func11 (by kernel_rfl) rfl #[.string (a0.extract (x10_1:Int).toNat (x12_1:Int).toNat)] rfl (by (try simp only [List.map_toArray,List.map_cons,List.map_nil]);first|done|rfl|(simp only [List.length_drop,List.length_take];rfl)) ?_;(with_reducible refine (understudyref23_Line.calls kj11 (a0.extract (x10_1:Int).toNat (x12_1:Int).toNat) t186 t187 t188 t189 _ A17.out).mono ?_);rintro e w42 ⟨v190,v192,rfl,ho0,ho1,hb⟩;refine ⟨_,rfl,?_⟩;have n0_:=Aside0.mk (Kd.S_elder' (by (with_reducible repeat (first|apply Kd.S_alloc|apply Kd.S_drewN|apply Kd.S_drew));exact HO_7.out) (Kd.R_base ho0) hb);have n1_:=Aside0.mk (Kd.R_below (by (with_reducible repeat (first|apply Kd.R_alloc|apply Kd.R_drewN|apply Kd.R_drew));exact HO_8.out) hb);have n2_:=Aside0.mk (Kd.R_lower ho0 (below_size (by repeat (first|(with_reducible first|exact HB.out|apply below_alloc|apply pw_below_drewN|apply below_drew1)|exact HB.out))));have n3_:=Aside0.mk (Kd.R_lower ho1 (below_size (by repeat (first|(with_reducible first|exact HB.out|apply below_alloc|apply pw_below_drewN|apply below_drew1)|exact HB.out))));have n4_:=Aside0.mk (below_step (by repeat (first|(with_reducible first|exact HB.out|apply below_alloc|apply pw_below_drewN|apply below_drew1)|exact HB.out)) hb);clear HO_7;clear HO_8;clear HB;have HO_7:=n0_;have HO_8:=n1_;have HO191:=n2_;have HO193:=n3_;have HB:=n4_;clear n0_ n1_ n2_ n3_ n4_;(try clear hb);(try clear hb2);(try clear hk);(try clear hi);(try clear ho0);(try clear ho1)))
               refine bodyPost_ret (results_list (rs:=[.tmp 2,.tmp 3,.tmp 4,.tmp 5,.tmp 6]) rfl (by simp) (.tmp (.tmp (.tmp (.tmp (.tmp .nil)))))) rfl ?_
               exact ⟨_,_,by first|rfl|(simp [errW_none,errW_some] <;> rfl)|(simp [*,errW_none,errW_some] <;> rfl),by first|exact Kd.S_nil _ _ _ _ _|exact Kd.N_nil _ _ _ _ _|exact Kd.V_nil _ _ _ _ _|exact Kd.Q_nil _ _ _ _ _|exact Kd.R_nil _ _ _ _ _,by first|exact Kd.R_nil _ _ _ _ _|exact Kd.N_nil _ _ _ _ _|exact Kd.V_nil _ _ _ _ _|exact Kd.Q_nil _ _ _ _ _|exact Kd.S_nil _ _ _ _ _,by repeat (first|(with_reducible first|exact HB.out|apply below_alloc|apply pw_below_drewN|apply below_drew1)|exact HB.out)⟩
          ·rw [if_neg c11] at H
           exact absurd H (by simp)
         ·rw [if_neg c10] at H
          exact absurd H (by simp)
        ·rw [if_neg c9] at H
         exact absurd H (by simp)
    ·rw [if_neg c3] at H
     have c3b0:decide (x12_1≤(a0.size:Int))=false:=decide_eq_false c3
     clear c3
     simp only [Option.some.injEq,Prod.mk.injEq] at H
     obtain ⟨rfl,rfl,rfl,rfl,rfl⟩:=H
     go_wp2
     refine bodyPost_ret (results_list (rs:=[.tmp 2,.tmp 3,.tmp 4,.tmp 5,.tmp 6]) rfl (by simp) (.tmp (.tmp (.tmp (.tmp (.tmp .nil)))))) rfl ?_
     exact ⟨_,_,by first|rfl|(simp [errW_none,errW_some] <;> rfl)|(simp [*,errW_none,errW_some] <;> rfl),by (with_reducible repeat (first|apply Kd.S_alloc|apply Kd.S_drewN|apply Kd.S_drew));exact HO_7.out,by (with_reducible repeat (first|apply Kd.R_alloc|apply Kd.R_drewN|apply Kd.R_drew));exact HO_8.out,by repeat (first|(with_reducible first|exact HB.out|apply below_alloc|apply pw_below_drewN|apply below_drew1)|exact HB.out)⟩
def understudylaw23_rows.l0:Nat→List (List Int)→List (List Int)→Int→Option (Bool)
 | 0,_,_,_ => none
 | k + 1,x0,x1,x5 => if x5 < (x0.length:Int) then (if 0≤x5 then (if x5 < (x1.length:Int) then (if (strOfNums (rd_L5 x0 x5)).toList=(strOfNums (rd_L5 x1 x5)).toList then (understudylaw23_rows.l0 k x0 x1 (wrap64 (x5 + 1))) else (some false)) else (none)) else (none)) else (some true)
def understudylaw23_rows.f (k:Nat) (l0:List (List Int)) (l1:List (List Int)):Option (Bool):=if (l0.length:Int)=(l1.length:Int) then (understudylaw23_rows.l0 k l0 l1 0) else (some false)
theorem understudylaw23_rows.mono_l:∀ k,(∀ y0 y1 y2,LeO (understudylaw23_rows.l0 k y0 y1 y2) (understudylaw23_rows.l0 (k + 1) y0 y1 y2))
 | 0 => fun _ _ _ r h => by simp [understudylaw23_rows.l0] at h
 | k + 1 => by
  have ih0:=understudylaw23_rows.mono_l k
  ·intro y0 y1 y2
   unfold understudylaw23_rows.l0
   repeat' first
   | (with_reducible exact ih0 _ _ _)
   | (with_reducible exact LeO.refl _)
   | (with_reducible exact LeO.none _)
   | (with_reducible refine LeO.ite ?_ ?_)
   | (with_reducible refine LeO.bind ?_ (fun _ => ?_))
   | exact ih0 _ _ _
   | exact LeO.none _
   | refine LeO.ite ?_ ?_
   | refine LeO.bind ?_ (fun _ => ?_)
theorem understudylaw23_rows.mono:∀ a0 a1 k,LeO (understudylaw23_rows.f k a0 a1) (understudylaw23_rows.f (k + 1) a0 a1):=by
 intro a0 a1 k
 have ih0:=understudylaw23_rows.mono_l k
 unfold understudylaw23_rows.f
 repeat' first
   | (with_reducible exact ih0 _ _ _)
   | (with_reducible exact LeO.refl _)
   | (with_reducible exact LeO.none _)
   | (with_reducible refine LeO.ite ?_ ?_)
   | (with_reducible refine LeO.bind ?_ (fun _ => ?_))
   | exact ih0 _ _ _
   | exact LeO.none _
   | refine LeO.ite ?_ ?_
   | refine LeO.bind ?_ (fun _ => ?_)
set_option maxHeartbeats 80000000 in
set_option maxRecDepth 100000 in
theorem understudylaw23_rows.calls (k:Nat) (A0:Option Addr) (c0:Nat) (l0:List (List Int)) (A1:Option Addr) (c1:Nat) (l1:List (List Int)) (r:Bool) (w:World) (hr0:Kd.C (Kd.slice 5 (Kd.int .u8)) w A0 l0.length l0) (hc0:l0.length≤c0) (hr1:Kd.C (Kd.slice 5 (Kd.int .u8)) w A1 l1.length l1) (hc1:l1.length≤c1) (h:understudylaw23_rows.f k l0 l1=some r) :
  Calls Tryz.prog 6 #[.slice A0 l0.length c0,.slice A1 l1.length c1] w fun e w' => e=.returned (.bool r)∧Drawn0 w w':=by
 have HR0:=Aside0.mk hr0
 have HC0:=Aside0.mk hc0
 clear hr0 hc0
 have HR1:=Aside0.mk hr1
 have HC1:=Aside0.mk hc1
 clear hr1 hc1
 have H:(if (l0.length:Int)=(l1.length:Int) then (understudylaw23_rows.l0 k l0 l1 0) else (some false))=some r:=h
 clear h
 by_cases c3:(l0.length:Int)=(l1.length:Int)
 ·rw [if_pos c3] at H
  have c3b0:((l0.length:Int)==(l1.length:Int))=true:=beq_iff_eq.mpr c3
  have c3b1:((l0.length:Int) != (l1.length:Int))=false:=bne_eq_false_iff_eq.mpr c3
  have c3b2:(l0.length==l1.length)=true:=by first|simpa using c3|(simp at c3 ⊢;omega)
  clear c3
  have H':=Aside0.mk H
  clear H
  go_enter Tryz.func6,Tryz.ntmps6
  go_wp2
  repeat (go_quiet (fail);try go_wp2)
  go_loopg [5] k (fun kq v5 w' => ∃ (x5_1:Int),v5=.int .i64 x5_1∧Aside0 (understudylaw23_rows.l0 kq l0 l1 x5_1=some r)∧Aside0 (kq≤k)∧Drawn0 w w')
  case atStart => exact ⟨(0),(by first|rfl|(simp;done)|(simp [*];done)),H',⟨Nat.le_refl _⟩,by repeat (first|exact Drawn0.refl _|apply Drawn0.step)⟩
  case round =>
   clear H'
   try clear c1;try clear p2;try clear c3;try clear c3b0;try clear c3b1;try clear c3b2
   obtain ⟨x5_1,rfl,HA,HK1,⟨m1,rfl⟩⟩:=hrel
   cases gk with
   | zero => exact absurd HA.out (by simp [understudylaw23_rows.l0])
   | succ k1 =>
    have H:=HA.out
    clear HA
    simp only [understudylaw23_rows.l0] at H
    by_cases c4:x5_1 < (l0.length:Int)
    ·rw [if_pos c4] at H
     have c4b0:decide (x5_1 < (l0.length:Int))=true:=decide_eq_true c4
     clear c4
     by_cases c5:0≤x5_1
     ·rw [if_pos c5] at H
      have c5b0:decide (0≤x5_1)=true:=decide_eq_true c5
      clear c5
      by_cases c6:x5_1 < (l1.length:Int)
      ·rw [if_pos c6] at H
       have c6b0:decide (x5_1 < (l1.length:Int))=true:=decide_eq_true c6
       clear c6
       by_cases c7:(strOfNums (rd_L5 l0 x5_1)).toList=(strOfNums (rd_L5 l1 x5_1)).toList
       ·rw [if_pos c7] at H
        have c7b0:((strOfNums (rd_L5 l0 x5_1)).toList==(strOfNums (rd_L5 l1 x5_1)).toList)=true:=beq_iff_eq.mpr c7
        have c7b1:((strOfNums (rd_L5 l0 x5_1)).toList != (strOfNums (rd_L5 l1 x5_1)).toList)=false:=bne_eq_false_iff_eq.mpr c7
        clear c7
        have H':=Aside0.mk H
        clear H
        have p209:0≤(x5_1:Int):=of_decide_eq_true (by first|(with_reducible assumption)|assumption)
        have q209:x5_1 < (l0.length:Int):=of_decide_eq_true (by first|(with_reducible assumption)|assumption)
        obtain ⟨ad209,A209_0,c209_0,e209,hx209_0,hl209_0,hi209_0⟩:=at_L5 HR0.out x5_1 p209 q209
        cases e209
        have HR209_0:=Aside0.mk hi209_0
        have HC209_0:=Aside0.mk hl209_0
        clear hi209_0 hl209_0
        replace p209:=eq_true p209
        replace q209:=eq_true q209
        have hcv8:=Kd.C_string (P:=Tryz.prog) (A:=A209_0) (c:=c209_0) Tryz.underlying45 Tryz.underlying5 Tryz.underlying9 HR209_0.out
        have hcv8n:=fun n_:Nat => Kd.C_string (P:=Tryz.prog) (A:=A209_0) (c:=c209_0) Tryz.underlying45 Tryz.underlying5 Tryz.underlying9 (Kd.C_drewN HR209_0.out n_)
        have p210:0≤(x5_1:Int):=of_decide_eq_true (by first|(with_reducible assumption)|assumption)
        have q210:x5_1 < (l1.length:Int):=of_decide_eq_true (by first|(with_reducible assumption)|assumption)
        obtain ⟨ad210,A210_0,c210_0,e210,hx210_0,hl210_0,hi210_0⟩:=at_L5 HR1.out x5_1 p210 q210
        cases e210
        have HR210_0:=Aside0.mk hi210_0
        have HC210_0:=Aside0.mk hl210_0
        clear hi210_0 hl210_0
        replace p210:=eq_true p210
        replace q210:=eq_true q210
        have hcv9:=Kd.C_string (P:=Tryz.prog) (A:=A210_0) (c:=c210_0) Tryz.underlying45 Tryz.underlying5 Tryz.underlying9 HR210_0.out
        have hcv9n:=fun n_:Nat => Kd.C_string (P:=Tryz.prog) (A:=A210_0) (c:=c210_0) Tryz.underlying45 Tryz.underlying5 Tryz.underlying9 (Kd.C_drewN HR210_0.out n_)
        go_wp2
        repeat (go_quiet (fail);try go_wp2)
        go_roundg k1
        case measure => have:=HK1.out;omega
        case rel => exact ⟨(wrap64 (x5_1 + 1)),(by first|rfl|(simp;done)|(simp [*];done)),H',⟨by have:=HK1.out;omega⟩,by repeat (first|exact Drawn0.refl _|apply Drawn0.step)⟩
       ·rw [if_neg c7] at H
        have c7b0:((strOfNums (rd_L5 l0 x5_1)).toList==(strOfNums (rd_L5 l1 x5_1)).toList)=false:=beq_eq_false_iff_ne.mpr c7
        have c7b1:((strOfNums (rd_L5 l0 x5_1)).toList != (strOfNums (rd_L5 l1 x5_1)).toList)=true:=bne_iff_ne.mpr c7
        obtain rfl:=Option.some.inj H
        have p209:0≤(x5_1:Int):=of_decide_eq_true (by first|(with_reducible assumption)|assumption)
        have q209:x5_1 < (l0.length:Int):=of_decide_eq_true (by first|(with_reducible assumption)|assumption)
        obtain ⟨ad209,A209_0,c209_0,e209,hx209_0,hl209_0,hi209_0⟩:=at_L5 HR0.out x5_1 p209 q209
        cases e209
        have HR209_0:=Aside0.mk hi209_0
        have HC209_0:=Aside0.mk hl209_0
        clear hi209_0 hl209_0
        replace p209:=eq_true p209
        replace q209:=eq_true q209
        have hcv10:=Kd.C_string (P:=Tryz.prog) (A:=A209_0) (c:=c209_0) Tryz.underlying45 Tryz.underlying5 Tryz.underlying9 HR209_0.out
        have hcv10n:=fun n_:Nat => Kd.C_string (P:=Tryz.prog) (A:=A209_0) (c:=c209_0) Tryz.underlying45 Tryz.underlying5 Tryz.underlying9 (Kd.C_drewN HR209_0.out n_)
        have p210:0≤(x5_1:Int):=of_decide_eq_true (by first|(with_reducible assumption)|assumption)
        have q210:x5_1 < (l1.length:Int):=of_decide_eq_true (by first|(with_reducible assumption)|assumption)
        obtain ⟨ad210,A210_0,c210_0,e210,hx210_0,hl210_0,hi210_0⟩:=at_L5 HR1.out x5_1 p210 q210
        cases e210
        have HR210_0:=Aside0.mk hi210_0
        have HC210_0:=Aside0.mk hl210_0
        clear hi210_0 hl210_0
        replace p210:=eq_true p210
        replace q210:=eq_true q210
        have hcv11:=Kd.C_string (P:=Tryz.prog) (A:=A210_0) (c:=c210_0) Tryz.underlying45 Tryz.underlying5 Tryz.underlying9 HR210_0.out
        have hcv11n:=fun n_:Nat => Kd.C_string (P:=Tryz.prog) (A:=A210_0) (c:=c210_0) Tryz.underlying45 Tryz.underlying5 Tryz.underlying9 (Kd.C_drewN HR210_0.out n_)
        go_wp2
        repeat (go_quiet (fail);try go_wp2)
        go_ret
        exact ⟨by first|rfl|(simp;done)|(simp [*];done),by repeat (first|exact Drawn0.refl _|apply Drawn0.step)⟩
      ·rw [if_neg c6] at H
       exact absurd H (by simp)
     ·rw [if_neg c5] at H
      exact absurd H (by simp)
    ·rw [if_neg c4] at H
     have c4b0:decide (x5_1 < (l0.length:Int))=false:=decide_eq_false c4
     clear c4
     obtain rfl:=Option.some.inj H
     go_wp2
     repeat (go_quiet (fail);try go_wp2)
     go_ret
     exact ⟨by first|rfl|(simp;done)|(simp [*];done),by repeat (first|exact Drawn0.refl _|apply Drawn0.step)⟩
 ·rw [if_neg c3] at H
  have c3b0:((l0.length:Int)==(l1.length:Int))=false:=beq_eq_false_iff_ne.mpr c3
  have c3b1:((l0.length:Int) != (l1.length:Int))=true:=bne_iff_ne.mpr c3
  have c3b2:(l0.length==l1.length)=false:=by first|simpa using c3|(simp at c3 ⊢;omega)
  obtain rfl:=Option.some.inj H
  go_enter Tryz.func6,Tryz.ntmps6
  go_wp2
  repeat (go_quiet (fail);try go_wp2)
  go_ret
  exact ⟨by first|rfl|(simp;done)|(simp [*];done),by repeat (first|exact Drawn0.refl _|apply Drawn0.step)⟩
def understudylaw23_acts.l0:Nat→List (S50)→List (S50)→Int→Option (Bool)
 | 0,_,_,_ => none
 | k + 1,x0,x1,x5 => if x5 < (x0.length:Int) then (if 0≤x5 then (if x5 < (x1.length:Int) then (if (!(((rd_T50 x0 x5).f0)==((rd_T50 x1 x5).f0)) || (!(((rd_T50 x0 x5).f1)==((rd_T50 x1 x5).f1)) || (!(((rd_T50 x0 x5).f2)==((rd_T50 x1 x5).f2)) || (!(((rd_T50 x0 x5).f3)==((rd_T50 x1 x5).f3))))))=true then (some false) else (understudylaw23_acts.l0 k x0 x1 (wrap64 (x5 + 1)))) else (none)) else (none)) else (some true)
def understudylaw23_acts.f (k:Nat) (l0:List (S50)) (l1:List (S50)):Option (Bool):=if (l0.length:Int)=(l1.length:Int) then (understudylaw23_acts.l0 k l0 l1 0) else (some false)
theorem understudylaw23_acts.mono_l:∀ k,(∀ y0 y1 y2,LeO (understudylaw23_acts.l0 k y0 y1 y2) (understudylaw23_acts.l0 (k + 1) y0 y1 y2))
 | 0 => fun _ _ _ r h => by simp [understudylaw23_acts.l0] at h
 | k + 1 => by
  have ih0:=understudylaw23_acts.mono_l k
  ·intro y0 y1 y2
   unfold understudylaw23_acts.l0
   repeat' first
   | (with_reducible exact ih0 _ _ _)
   | (with_reducible exact LeO.refl _)
   | (with_reducible exact LeO.none _)
   | (with_reducible refine LeO.ite ?_ ?_)
   | (with_reducible refine LeO.bind ?_ (fun _ => ?_))
   | exact ih0 _ _ _
   | exact LeO.none _
   | refine LeO.ite ?_ ?_
   | refine LeO.bind ?_ (fun _ => ?_)
theorem understudylaw23_acts.mono:∀ a0 a1 k,LeO (understudylaw23_acts.f k a0 a1) (understudylaw23_acts.f (k + 1) a0 a1):=by
 intro a0 a1 k
 have ih0:=understudylaw23_acts.mono_l k
 unfold understudylaw23_acts.f
 repeat' first
   | (with_reducible exact ih0 _ _ _)
   | (with_reducible exact LeO.refl _)
   | (with_reducible exact LeO.none _)
   | (with_reducible refine LeO.ite ?_ ?_)
   | (with_reducible refine LeO.bind ?_ (fun _ => ?_))
   | exact ih0 _ _ _
   | exact LeO.none _
   | refine LeO.ite ?_ ?_
   | refine LeO.bind ?_ (fun _ => ?_)
set_option maxHeartbeats 80000000 in
set_option maxRecDepth 100000 in
theorem understudylaw23_acts.calls (k:Nat) (A0:Option Addr) (c0:Nat) (l0:List (S50)) (A1:Option Addr) (c1:Nat) (l1:List (S50)) (r:Bool) (w:World) (hr0:Kd.C k50 w A0 l0.length l0) (hc0:l0.length≤c0) (hr1:Kd.C k50 w A1 l1.length l1) (hc1:l1.length≤c1) (h:understudylaw23_acts.f k l0 l1=some r) :
  Calls Tryz.prog 7 #[.slice A0 l0.length c0,.slice A1 l1.length c1] w fun e w' => e=.returned (.bool r)∧Drawn0 w w':=by
 have hu50:=Tryz.underlying50
 have HR0:=Aside0.mk hr0
 have HC0:=Aside0.mk hc0
 clear hr0 hc0
 have HR1:=Aside0.mk hr1
 have HC1:=Aside0.mk hc1
 clear hr1 hc1
 have H:(if (l0.length:Int)=(l1.length:Int) then (understudylaw23_acts.l0 k l0 l1 0) else (some false))=some r:=h
 clear h
 by_cases c3:(l0.length:Int)=(l1.length:Int)
 ·rw [if_pos c3] at H
  have c3b0:((l0.length:Int)==(l1.length:Int))=true:=beq_iff_eq.mpr c3
  have c3b1:((l0.length:Int) != (l1.length:Int))=false:=bne_eq_false_iff_eq.mpr c3
  have c3b2:(l0.length==l1.length)=true:=by first|simpa using c3|(simp at c3 ⊢;omega)
  clear c3
  have H':=Aside0.mk H
  clear H
  go_enter Tryz.func7,Tryz.ntmps7
  go_wp2
  repeat (go_quiet (fail);try go_wp2)
  go_loopg [5] k (fun kq v5 w' => ∃ (x5_1:Int),v5=.int .i64 x5_1∧Aside0 (understudylaw23_acts.l0 kq l0 l1 x5_1=some r)∧Aside0 (kq≤k)∧Drawn0 w w')
  case atStart => exact ⟨(0),(by first|rfl|(simp;done)|(simp [*];done)),H',⟨Nat.le_refl _⟩,by repeat (first|exact Drawn0.refl _|apply Drawn0.step)⟩
  case round =>
   clear H'
   try clear c1;try clear p2;try clear c3;try clear c3b0;try clear c3b1;try clear c3b2
   obtain ⟨x5_1,rfl,HA,HK1,⟨m1,rfl⟩⟩:=hrel
   cases gk with
   | zero => exact absurd HA.out (by simp [understudylaw23_acts.l0])
   | succ k1 =>
    have H:=HA.out
    clear HA
    simp only [understudylaw23_acts.l0] at H
    by_cases c4:x5_1 < (l0.length:Int)
    ·rw [if_pos c4] at H
     have c4b0:decide (x5_1 < (l0.length:Int))=true:=decide_eq_true c4
     clear c4
     by_cases c5:0≤x5_1
     ·rw [if_pos c5] at H
      have c5b0:decide (0≤x5_1)=true:=decide_eq_true c5
      clear c5
      by_cases c6:x5_1 < (l1.length:Int)
      ·rw [if_pos c6] at H
       have c6b0:decide (x5_1 < (l1.length:Int))=true:=decide_eq_true c6
       clear c6
       by_cases c7:(!(((rd_T50 l0 x5_1).f0)==((rd_T50 l1 x5_1).f0)) || (!(((rd_T50 l0 x5_1).f1)==((rd_T50 l1 x5_1).f1)) || (!(((rd_T50 l0 x5_1).f2)==((rd_T50 l1 x5_1).f2)) || (!(((rd_T50 l0 x5_1).f3)==((rd_T50 l1 x5_1).f3))))))=true
       ·rw [if_pos c7] at H
        have c7b0:(!(((rd_T50 l0 x5_1).f0)==((rd_T50 l1 x5_1).f0)) || (!(((rd_T50 l0 x5_1).f1)==((rd_T50 l1 x5_1).f1)) || (!(((rd_T50 l0 x5_1).f2)==((rd_T50 l1 x5_1).f2)) || (!(((rd_T50 l0 x5_1).f3)==((rd_T50 l1 x5_1).f3))))))=true:=c7
        clear c7
        obtain rfl:=Option.some.inj H
        have p211:0≤(x5_1:Int):=of_decide_eq_true (by first|(with_reducible assumption)|assumption)
        have q211:x5_1 < (l0.length:Int):=of_decide_eq_true (by first|(with_reducible assumption)|assumption)
        obtain ⟨ad211,e211,hx211_0,hx211_1,hx211_2,hx211_3⟩:=at_T50 HR0.out x5_1 p211 q211
        cases e211
        replace p211:=eq_true p211
        replace q211:=eq_true q211
        have p212:0≤(x5_1:Int):=of_decide_eq_true (by first|(with_reducible assumption)|assumption)
        have q212:x5_1 < (l1.length:Int):=of_decide_eq_true (by first|(with_reducible assumption)|assumption)
        obtain ⟨ad212,e212,hx212_0,hx212_1,hx212_2,hx212_3⟩:=at_T50 HR1.out x5_1 p212 q212
        cases e212
        replace p212:=eq_true p212
        replace q212:=eq_true q212
        go_wp2
        repeat (go_quiet (fail);try go_wp2)
        go_ret
        exact ⟨by first|rfl|(simp;done)|(simp [*];done),by repeat (first|exact Drawn0.refl _|apply Drawn0.step)⟩
       ·rw [if_neg c7] at H
        have c7b0:(!(((rd_T50 l0 x5_1).f0)==((rd_T50 l1 x5_1).f0)) || (!(((rd_T50 l0 x5_1).f1)==((rd_T50 l1 x5_1).f1)) || (!(((rd_T50 l0 x5_1).f2)==((rd_T50 l1 x5_1).f2)) || (!(((rd_T50 l0 x5_1).f3)==((rd_T50 l1 x5_1).f3))))))=false:=by simpa using c7
        clear c7
        have H':=Aside0.mk H
        clear H
        have p211:0≤(x5_1:Int):=of_decide_eq_true (by first|(with_reducible assumption)|assumption)
        have q211:x5_1 < (l0.length:Int):=of_decide_eq_true (by first|(with_reducible assumption)|assumption)
        obtain ⟨ad211,e211,hx211_0,hx211_1,hx211_2,hx211_3⟩:=at_T50 HR0.out x5_1 p211 q211
        cases e211
        replace p211:=eq_true p211
        replace q211:=eq_true q211
        have p212:0≤(x5_1:Int):=of_decide_eq_true (by first|(with_reducible assumption)|assumption)
        have q212:x5_1 < (l1.length:Int):=of_decide_eq_true (by first|(with_reducible assumption)|assumption)
        obtain ⟨ad212,e212,hx212_0,hx212_1,hx212_2,hx212_3⟩:=at_T50 HR1.out x5_1 p212 q212
        cases e212
        replace p212:=eq_true p212
        replace q212:=eq_true q212
        go_wp2
        repeat (go_quiet (fail);try go_wp2)
        go_roundg k1
        case measure => have:=HK1.out;omega
        case rel => exact ⟨(wrap64 (x5_1 + 1)),(by first|rfl|(simp;done)|(simp [*];done)),H',⟨by have:=HK1.out;omega⟩,by repeat (first|exact Drawn0.refl _|apply Drawn0.step)⟩
      ·rw [if_neg c6] at H
       exact absurd H (by simp)
     ·rw [if_neg c5] at H
      exact absurd H (by simp)
    ·rw [if_neg c4] at H
     have c4b0:decide (x5_1 < (l0.length:Int))=false:=decide_eq_false c4
     clear c4
     obtain rfl:=Option.some.inj H
     go_wp2
     repeat (go_quiet (fail);try go_wp2)
     go_ret
     exact ⟨by first|rfl|(simp;done)|(simp [*];done),by repeat (first|exact Drawn0.refl _|apply Drawn0.step)⟩
 ·rw [if_neg c3] at H
  have c3b0:((l0.length:Int)==(l1.length:Int))=false:=beq_eq_false_iff_ne.mpr c3
  have c3b1:((l0.length:Int) != (l1.length:Int))=true:=bne_iff_ne.mpr c3
  have c3b2:(l0.length==l1.length)=false:=by first|simpa using c3|(simp at c3 ⊢;omega)
  obtain rfl:=Option.some.inj H
  go_enter Tryz.func7,Tryz.ntmps7
  go_wp2
  repeat (go_quiet (fail);try go_wp2)
  go_ret
  exact ⟨by first|rfl|(simp;done)|(simp [*];done),by repeat (first|exact Drawn0.refl _|apply Drawn0.step)⟩
end Go.Proofs.YtpofikjkccljlaaGreatDoor.Px
namespace Go.Proofs.YtpofikjkccljlaaGreatDoor.Px
open Go.RowKit Go.Lib Go.Proofs.YtpofikjkccljlaaGreatDoorW.PrintWords Go.Proofs.YtpofikjkccljlaaGreatDoorW.PrintLast Go.Proofs.YtpofikjkccljlaaGreatDoorW.PrintMore
set_option linter.unusedVariables false
set_option linter.unusedSimpArgs false
def numV (s:ByteArray):Int × Bool:=match Lib.parseIntB 64 s.data.toList with
 | .ok v => (v,decide ((Lib.trimPrefix s.data.toList [45]).length≤18) && (Lib.itoa v==s.toList))
 | .«syntax» => (0,false)
 | .range => (Lib.intSat 64 s.data.toList,false)
set_option maxHeartbeats 8000000 in
set_option maxRecDepth 100000 in
theorem number.calls (s:ByteArray) (w:World) (hs:s.size≤281474976710656) (hG:Aside0 (GG w)) :
  Calls Tryz.prog 29 #[.string s] w fun e w' => e=.returned (.tuple #[.int .i64 (numV s).1,.bool (numV s).2])∧Below w.heap.size w w':=by
 have hn:∀ w:World,(binOp BinOp.eql 35 .nilIface .nilIface).run Tryz.prog w=.ok (.bool true) w:=fun _ => by kernel_rfl
 have HSZ:=Aside0.mk hs
 cases hp:Lib.parseIntB 64 s.data.toList with
 | «syntax» =>
  have e1:numV s=(0,false):=by unfold numV;rw [hp]
  rw [e1]
  obtain ⟨te,pe,hv⟩:=hG.out.es
  have HC:=Aside0.mk (Tryz.strconv_ParseInt_10_at64_syntax s hs hp _ w hv (.inr ⟨te,pe,rfl⟩))
  clear hp e1 hs hv
  go_enter Tryz.func29,Tryz.ntmps29
  go_wp2_with fail
  refine HC.out.mono ?_
  rintro e w1 ⟨N,rfl,_,_,hb⟩
  have HB:=Aside0.mk hb
  clear HC hb
  go_wp2
  go_ret2
  exact ⟨rfl,HB.out⟩
 | range =>
  have e1:numV s=(Lib.intSat 64 s.data.toList,false):=by unfold numV;rw [hp]
  rw [e1]
  obtain ⟨te,pe,hv⟩:=hG.out.er
  have HC:=Aside0.mk (Tryz.strconv_ParseInt_10_at64_range s hs hp _ w hv (.inr ⟨te,pe,rfl⟩))
  clear hp e1 hs hv
  go_enter Tryz.func29,Tryz.ntmps29
  go_wp2_with fail
  refine HC.out.mono ?_
  rintro e w1 ⟨N,rfl,_,_,hb⟩
  have HB:=Aside0.mk hb
  clear HC hb
  go_wp2
  go_ret2
  exact ⟨rfl,HB.out⟩
 | ok v =>
  have hvb:=Lib.parseIntB_bounds hp
  have HC:=Aside0.mk (Tryz.strconv_ParseInt_10_at64_ok s (by omega) v hp w)
  have HV:Aside0 (-9223372036854775808≤v∧v≤9223372036854775807):=⟨by simp at hvb;omega⟩
  clear hvb
  by_cases hl:(Lib.trimPrefix s.data.toList [45]).length≤18
  ·have e1:numV s=(v,(Lib.itoa v==s.toList)):=by unfold numV;rw [hp];simp only [hl,decide_true,Bool.true_and]
   rw [e1]
   have hl1:decide ((Lib.trimPrefix s.data.toList [45]).length≤18)=true:=decide_eq_true hl
   have hl2:decide (((Lib.trimPrefix s.data.toList [45]).length:Int)≤18)=true:=decide_eq_true (by omega)
   clear hp e1 hs hl
   go_enter Tryz.func29,Tryz.ntmps29
   go_wp2_with fail
   refine HC.out.mono ?_
   rintro e w1 ⟨rfl,hw⟩
   have HB:=Aside0.mk (show Below w.heap.size w w1 from by
    rcases hw with rfl|⟨t,rfl⟩
    ·exact Below.refl _ _
    ·exact bytes_below (Below.refl _ _) (Nat.le_refl _) _ _)
   clear HC hw
   go_wp2_with fail
   refine (Tryz.strings_TrimPrefix s ⟨#[45]⟩ w1).mono ?_
   rintro e w2 ⟨rfl,rfl⟩
   go_wp2_with fail
   refine (Tryz.strconv_FormatInt_10 v HV.out.1 HV.out.2 _ (tab_below hG.out.tab HB.out)).mono ?_
   rintro e w3 ⟨rfl,n,os,hw⟩
   have HB3:=Aside0.mk (show Below w.heap.size w w3 from by rw [hw];exact HB.out.trans ((pw_below_drewN (Below.refl _ _) n |>.trans (grow_below _ os)).mono HB.out.size))
   clear hw hl1 hl2
   go_wp2
   go_ret2
   exact ⟨rfl,HB3.out⟩
  ·have e1:numV s=(v,false):=by unfold numV;rw [hp];simp only [hl,decide_false,Bool.false_and]
   rw [e1]
   have hl1:decide ((Lib.trimPrefix s.data.toList [45]).length≤18)=false:=decide_eq_false hl
   have hl2:decide (((Lib.trimPrefix s.data.toList [45]).length:Int)≤18)=false:=decide_eq_false (by omega)
   clear hp e1 hs hl
   go_enter Tryz.func29,Tryz.ntmps29
   go_wp2_with fail
   refine HC.out.mono ?_
   rintro e w1 ⟨rfl,hw⟩
   have HB:=Aside0.mk (show Below w.heap.size w w1 from by
    rcases hw with rfl|⟨t,rfl⟩
    ·exact Below.refl _ _
    ·exact bytes_below (Below.refl _ _) (Nat.le_refl _) _ _)
   clear HC hw
   go_wp2_with fail
   refine (Tryz.strings_TrimPrefix s ⟨#[45]⟩ w1).mono ?_
   rintro e w2 ⟨rfl,rfl⟩
   go_wp2
   go_ret2
   exact ⟨rfl,HB.out⟩
end Go.Proofs.YtpofikjkccljlaaGreatDoor.Px
namespace Go.Proofs.YtpofikjkccljlaaGreatDoor.Px
open Go.RowKit Go.Proofs.YtpofikjkccljlaaGreatDoorW.PrintWords Go.Proofs.YtpofikjkccljlaaGreatDoorW.PrintLast Go.Proofs.YtpofikjkccljlaaGreatDoorW.PrintMore
set_option linter.unusedVariables false
theorem R_strings (W:World) (base:Nat) (l:List ByteArray) (hb:base≤W.heap.size) (hm:l.length≤9223372036854775807) :
  Kd.R Kd.string 9 (W.alloc (.cells (l.map Value.string).toArray 9)) base (fun _ => True) (.slice (some ⟨W.heap.size,0,none⟩) l.length l.length) l:=by
 refine ⟨fun _ _ => trivial,l.map Value.string,?_,?_⟩
 ·have h2:=World.ownsRow_lit (base:=base) (e:=9) (size:=1) W (l.map Value.string).toArray l.length hb (by simpa [maxLen] using hm) (by simp)
  rw [show Kd.string.sz=1 from rfl]
  simpa using h2
 ·refine ⟨by show (l.map Value.string).length=l.length * 1;simp,fun j p hj => ?_⟩
  obtain ⟨hjl,hp⟩:=List.getElem?_eq_some_iff.1 hj
  show ((l.map Value.string).drop (j * 1)).take 1=[.string p]
  rw [Nat.mul_one,List.take_one,List.head?_drop,List.getElem?_map,hj]
  rfl
def strings_Split.f (a0 a1:ByteArray):Option (List ByteArray) :=
 if a0.size < 4294967281∧1≤a1.size then some (Lib.splitB a1 0 (Lib.countB a0 a1) a0) else none
theorem strings_Split.calls (a0 a1:ByteArray) (r:List ByteArray) (w:World) (hG:Aside0 (GG w)) (h:strings_Split.f a0 a1=some r) :
  Calls Tryz.prog 14 #[.string a0,.string a1] w fun e w' => ∃ v0_:Value,e=.returned (v0_)∧Kd.R Kd.string 9 w' w.heap.size (fun _ => True) v0_ r∧Below w.heap.size w w':=by
 unfold strings_Split.f at h
 by_cases hs:a0.size < 4294967281∧1≤a1.size
 ·rw [if_pos hs] at h
  obtain rfl:=Option.some.inj h
  obtain ⟨m,hm⟩:=hG.out.ml
  refine (Tryz.strings_Split a0 a1 m w hs.1 hm hs.2).mono ?_
  rintro e w' ⟨rfl,rfl⟩
  have hl:(Lib.splitB a1 0 (Lib.countB a0 a1) a0).length=Lib.countB a0 a1 + 1:=Lib.splitB_all a1 hs.2 0 _ a0 rfl
  have hc:=Lib.splitB_length_le a1 0 (Lib.countB a0 a1) a0
  have hR:=R_strings w w.heap.size (Lib.splitB a1 0 (Lib.countB a0 a1) a0) (Nat.le_refl _) (by have:=Lib.countB_le a1 hs.2 a0.size a0 (Nat.le_refl _);have:=hs.1;omega)
  rw [hl] at hR
  exact ⟨_,rfl,hR,below_alloc (Below.refl _ _) _⟩
 ·rw [if_neg hs] at h
  exact absurd h (by simp)
def strings_CutPrefix.f (a0 a1:ByteArray):Option (ByteArray × Bool):=some (⟨(Lib.trimPrefix a0.data.toList a1.data.toList).toArray⟩,Lib.hasPrefix a0.data.toList a1.data.toList)
theorem strings_CutPrefix.calls (a0 a1:ByteArray) (r1:ByteArray) (r2:Bool) (w:World) (h:strings_CutPrefix.f a0 a1=some (r1,r2)) :
  Calls Tryz.prog 43 #[.string a0,.string a1] w fun e w' => e=.returned (.tuple #[.string r1,.bool r2])∧Drawn0 w w':=by
 simp only [strings_CutPrefix.f,Option.some.injEq,Prod.mk.injEq] at h
 obtain ⟨rfl,rfl⟩:=h
 refine (Tryz.strings_CutPrefix a0 a1 w).mono ?_
 rintro e w' ⟨he,rfl⟩
 exact ⟨he,Drawn0.refl _⟩
def strings_IndexByte.f (a0:ByteArray) (a1:Int):Option Int:=some (Lib.indexByte a0.data.toList a1.toNat.toUInt8)
theorem strings_IndexByte.calls (a0:ByteArray) (a1:Int) (r:Int) (w:World) (h:strings_IndexByte.f a0 a1=some r) :
  Calls Tryz.prog 44 #[.string a0,.int .u8 a1] w fun e w' => e=.returned (.int .i64 r)∧Drawn0 w w':=by
 simp only [strings_IndexByte.f,Option.some.injEq] at h
 subst h
 refine (Tryz.strings_IndexByte a0 a1 w).mono ?_
 rintro e w' ⟨he,rfl⟩
 exact ⟨he,Drawn0.refl _⟩
def script_number.f (a0:ByteArray):Option (Int × Bool):=if a0.size≤281474976710656 then some (numV a0) else none
theorem script_number.calls (a0:ByteArray) (r1:Int) (r2:Bool) (w:World) (hG:Aside0 (GG w)) (h:script_number.f a0=some (r1,r2)) :
  Calls Tryz.prog 29 #[.string a0] w fun e w' => e=.returned (.tuple #[.int .i64 r1,.bool r2])∧Below w.heap.size w w':=by
 unfold script_number.f at h
 by_cases hs:a0.size≤281474976710656
 ·rw [if_pos hs] at h
  have h:=Option.some.inj h
  have h1:(numV a0).1=r1:=by rw [h]
  have h2:(numV a0).2=r2:=by rw [h]
  rw [← h1,← h2]
  exact number.calls a0 w hs hG
 ·rw [if_neg hs] at h
  exact absurd h (by simp)
end Go.Proofs.YtpofikjkccljlaaGreatDoor.Px
namespace Go.Proofs.YtpofikjkccljlaaGreatDoor.Px
open Go.Lib
def linesOf:List UInt8→List (List UInt8)
 | [] => [[]]
 | c :: l => if c=10 then [] :: linesOf l else match linesOf l with
  | [] => [[c]]
  | w :: r => (c :: w) :: r
theorem lines_ne:∀ l,linesOf l ≠ []
 | [] => by simp [linesOf]
 | c :: l => by
  unfold linesOf
  split
  ·simp
  ·split <;> simp
theorem lines_none:∀ w:List UInt8,10 ∉ w→linesOf w=[w]
 | [],_ => rfl
 | c :: l,h => by
  have ih:=lines_none l (fun hm => h (List.mem_cons_of_mem _ hm))
  unfold linesOf
  rw [if_neg (fun e => h (by rw [e];exact List.mem_cons_self)),ih]
theorem lines_app:∀ (w t:List UInt8),10 ∉ w→linesOf (w++10 :: t)=w :: linesOf t
 | [],t,_ => by show linesOf (10 :: t)=_;rw [linesOf.eq_2,if_pos rfl]
 | c :: l,t,h => by
  have ih:=lines_app l t (fun hm => h (List.mem_cons_of_mem _ hm))
  show linesOf (c :: (l++10 :: t))=_
  rw [linesOf.eq_2,if_neg (fun e => h (by rw [e];exact List.mem_cons_self)),ih]
theorem lines_len:∀ l,∀ w ∈ linesOf l,w.length≤l.length
 | [],w,h => by simp [linesOf] at h;subst h;simp
 | c :: l,w,h => by
  have ih:=lines_len l
  rw [linesOf.eq_2] at h
  split at h
  ·rcases List.mem_cons.1 h with e|e
   ·subst e;simp
   ·have:=ih w e;simp;omega
  ·cases hw:linesOf l with
   | nil => exact absurd hw (lines_ne l)
   | cons v r =>
    rw [hw] at h ih
    rcases List.mem_cons.1 h with e|e
    ·subst e;have:=ih v (by simp);simp;omega
    ·have:=ih w (List.mem_cons_of_mem _ e);simp;omega
theorem split_lines:∀ l:List UInt8,splitK [10] 0 (count l [10]) l=linesOf l
 | [] => by rw [count_miss (by simp [index])];rfl
 | c :: l => by
  have ih:=split_lines l
  rw [linesOf.eq_2]
  by_cases h:c=10
  ·subst h
   rw [if_pos rfl,count_cons_eq,Nat.add_comm]
   have hix:index (10 :: l) [10]=0:=by rw [index];simp [List.isPrefixOf]
   rw [splitK,hix,if_neg (by decide)]
   show [] :: splitK [10] 0 (count l [10]) l=_
   rw [ih]
  ·rw [if_neg h,count_cons_ne c 10 l h]
   have hp:([10]:List UInt8).isPrefixOf (c :: l)=false:=by simp [List.isPrefixOf,Ne.symm h]
   have hix:index (c :: l) [10]=if index l [10]==-1 then -1 else index l [10] + 1:=by rw [index,hp];simp
   by_cases hm:index l [10]=-1
   ·rw [count_miss hm] at ih ⊢
    rw [← ih]
    rfl
   ·have hge:=index_ge l [10]
    obtain ⟨j,hj⟩:∃ j:Nat,index l [10]=j:=⟨(index l [10]).toNat,by omega⟩
    have hix':index (c :: l) [10]=((j + 1:Nat):Int):=by rw [hix,if_neg (fun e => hm (beq_iff_eq.1 e)),hj];omega
    rw [count_hit (by simp) hj,Nat.add_comm] at ih ⊢
    rw [splitK,hj,if_neg (fun e => by have:=beq_iff_eq.1 e;omega)] at ih
    rw [splitK,hix',if_neg (fun e => by have:=beq_iff_eq.1 e;omega),← ih]
    rfl
theorem count_of10 (s:ByteArray) (c:UInt8):countB s ⟨#[c]⟩=count s.data.toList [c]:=rfl
def linesB (s:ByteArray):List ByteArray:=splitB ⟨#[10]⟩ 0 (countB s ⟨#[10]⟩) s
theorem linesB_data (s:ByteArray):(linesB s).map (·.data.toList)=linesOf s.data.toList:=by
 unfold linesB
 rw [splitB_data,count_of10]
 exact split_lines _
end Go.Proofs.YtpofikjkccljlaaGreatDoor.Px
namespace Go.Proofs.YtpofikjkccljlaaGreatDoor.Px
open Go.RowKit Go.Proofs.YtpofikjkccljlaaGreatDoorW.PrintWords Go.Proofs.YtpofikjkccljlaaGreatDoorW.PrintLast Go.Proofs.YtpofikjkccljlaaGreatDoorW.PrintMore
attribute [local go_sem] max2_int min2_int max_two min_two max_three min_three max_four min_four
set_option linter.unusedVariables false
set_option linter.unusedSimpArgs false
def script_many.f (a0:Int):Option (Int):=if a0=0 then (some 3) else (if a0=1 then (some 2) else (if a0=2 then (some 2) else (some 1)))
set_option maxHeartbeats 80000000 in
set_option maxRecDepth 100000 in
theorem script_many.calls (a0:Int) (r:Int) (w:World) (h:script_many.f a0=some r) :
  Calls Tryz.prog 26 #[.int .i64 a0] w fun e w' => e=.returned (.int .i64 r)∧Drawn0 w w':=by
 have H:(if a0=0 then (some 3) else (if a0=1 then (some 2) else (if a0=2 then (some 2) else (some 1))))=some r:=h
 clear h
 by_cases c2:a0=0
 ·rw [if_pos c2] at H
  have c2b0:(a0==0)=true:=beq_iff_eq.mpr c2
  have c2b1:(a0 != 0)=false:=bne_eq_false_iff_eq.mpr c2
  clear c2
  obtain rfl:=Option.some.inj H
  go_enter Tryz.func26,Tryz.ntmps26
  go_wp2
  go_ret
  exact ⟨by first|rfl|(simp;done)|(simp [*];done),by repeat (first|exact Drawn0.refl _|apply Drawn0.step)⟩
 ·rw [if_neg c2] at H
  have c2b0:(a0==0)=false:=beq_eq_false_iff_ne.mpr c2
  have c2b1:(a0 != 0)=true:=bne_iff_ne.mpr c2
  by_cases c3:a0=1
  ·rw [if_pos c3] at H
   have c3b0:(a0==1)=true:=beq_iff_eq.mpr c3
   have c3b1:(a0 != 1)=false:=bne_eq_false_iff_eq.mpr c3
   clear c3
   obtain rfl:=Option.some.inj H
   go_enter Tryz.func26,Tryz.ntmps26
   go_wp2
   go_ret
   exact ⟨by first|rfl|(simp;done)|(simp [*];done),by repeat (first|exact Drawn0.refl _|apply Drawn0.step)⟩
  ·rw [if_neg c3] at H
   have c3b0:(a0==1)=false:=beq_eq_false_iff_ne.mpr c3
   have c3b1:(a0 != 1)=true:=bne_iff_ne.mpr c3
   by_cases c4:a0=2
   ·rw [if_pos c4] at H
    have c4b0:(a0==2)=true:=beq_iff_eq.mpr c4
    have c4b1:(a0 != 2)=false:=bne_eq_false_iff_eq.mpr c4
    clear c4
    obtain rfl:=Option.some.inj H
    go_enter Tryz.func26,Tryz.ntmps26
    go_wp2
    go_ret
    exact ⟨by first|rfl|(simp;done)|(simp [*];done),by repeat (first|exact Drawn0.refl _|apply Drawn0.step)⟩
   ·rw [if_neg c4] at H
    have c4b0:(a0==2)=false:=beq_eq_false_iff_ne.mpr c4
    have c4b1:(a0 != 2)=true:=bne_iff_ne.mpr c4
    obtain rfl:=Option.some.inj H
    go_enter Tryz.func26,Tryz.ntmps26
    go_wp2
    go_ret
    exact ⟨by first|rfl|(simp;done)|(simp [*];done),by repeat (first|exact Drawn0.refl _|apply Drawn0.step)⟩
end Go.Proofs.YtpofikjkccljlaaGreatDoor.Px
namespace Go.Proofs.YtpofikjkccljlaaGreatDoor.Px
open Go.Lib
set_option linter.unusedVariables false
set_option linter.unusedSimpArgs false
theorem digit_nat {d:Nat} (h:d < 10):(UInt8.ofNat (48 + d)).toNat=48 + d:=by
 rw [UInt8.toNat_ofNat']
 omega
theorem dec_digits:∀ (u:Nat),∀ c ∈ decDigits u,48≤c.toNat∧c.toNat≤57:=by
 intro u
 induction u using Nat.strongRecOn with
 | _ u ih =>
  intro c hc
  rw [decDigits] at hc
  by_cases h:u < 10
  ·rw [dif_pos h,List.mem_singleton] at hc
   rw [hc,digit_nat h];omega
  ·rw [dif_neg h] at hc
   rcases List.mem_append.1 hc with q|q
   ·exact ih (u / 10) (by omega) c q
   ·rw [List.mem_singleton.1 q,digit_nat (by omega)];omega
theorem dec_ne (u:Nat):decDigits u ≠ []:=by
 intro h
 have:=congrArg List.length h
 rw [decDigits_length,List.length_nil] at this
 have:=nDigits_pos u
 omega
theorem parseM_snoc (M:Nat):∀ (l:List UInt8) (acc a:Nat) (c:UInt8),parseUintM M acc l=.ok a→48≤c.toNat∧c.toNat≤57→a < 1844674407370955162→a * 10 + (c.toNat - 48)≤M→parseUintM M acc (l++[c])=.ok (a * 10 + (c.toNat - 48))
 | [],acc,a,c,h,hc,ha,hM => by
  unfold parseUintM at h
  injection h with h
  subst h
  rw [List.nil_append]
  unfold parseUintM
  rw [if_pos hc,if_neg (by omega),if_neg (by omega)]
  unfold parseUintM
  rfl
 | d :: r,acc,a,c,h,hc,ha,hM => by
  rw [List.cons_append]
  unfold parseUintM at h ⊢
  by_cases h1:48≤d.toNat∧d.toNat≤57
  ·rw [if_pos h1] at h ⊢
   by_cases h2:1844674407370955162≤acc
   ·rw [if_pos h2] at h;cases h
   ·rw [if_neg h2] at h ⊢
    by_cases h3:M < acc * 10 + (d.toNat - 48)
    ·rw [if_pos h3] at h;cases h
    ·rw [if_neg h3] at h ⊢
     exact parseM_snoc M r _ a c h hc ha hM
  ·rw [if_neg h1] at h;cases h
theorem parse_dec:∀ (u:Nat),u≤18446744073709551615→parseUintM 18446744073709551615 0 (decDigits u)=.ok u:=by
 intro u
 induction u using Nat.strongRecOn with
 | _ u ih =>
  intro hu
  rw [decDigits]
  by_cases h:u < 10
  ·rw [dif_pos h]
   have:=parseM_snoc 18446744073709551615 [] 0 0 (UInt8.ofNat (48 + u)) (by unfold parseUintM;rfl) (by rw [digit_nat h];omega) (by omega) (by rw [digit_nat h];omega)
   rw [List.nil_append,digit_nat h] at this
   rw [this]
   congr 1
   omega
  ·rw [dif_neg h]
   have hd:u % 10 < 10:=by omega
   have:=parseM_snoc 18446744073709551615 (decDigits (u / 10)) 0 (u / 10) (UInt8.ofNat (48 + u % 10)) (ih (u / 10) (by omega) (by omega)) (by rw [digit_nat hd];omega) (by omega) (by rw [digit_nat hd];omega)
   rw [digit_nat hd] at this
   rw [this]
   congr 1
   omega
theorem parseB_dec (u:Nat) (hu:u≤18446744073709551615):parseUintB 64 (decDigits u)=.ok u:=by
 unfold parseUintB
 rw [if_neg (dec_ne u)]
 exact parse_dec u hu
theorem parse_itoa {x:Int} (h0:-9223372036854775808≤x) (h1:x≤9223372036854775807):parseIntB 64 (itoa x)=.ok x:=by
 unfold itoa
 by_cases h:x < 0
 ·rw [if_pos h]
  unfold parseIntB
  have e45:(45:UInt8).toNat=45:=rfl
  simp only [e45]
  rw [if_pos (Or.inr trivial),parseB_dec _ (by omega)]
  simp only [not_true_eq_false,false_and,if_false,true_and]
  rw [if_neg (by omega),if_pos trivial]
  congr 1
  omega
 ·rw [if_neg h]
  cases hd:decDigits x.toNat with
  | nil => exact absurd hd (dec_ne _)
  | cons c r =>
   have hc:=dec_digits x.toNat c (by rw [hd];exact List.mem_cons_self)
   unfold parseIntB
   simp only
   rw [if_neg (by omega),← hd,parseB_dec _ (by omega)]
   have hn:¬ c.toNat=45:=by omega
   simp only [hn,not_false_eq_true,true_and,false_and,if_false]
   rw [if_neg (by omega)]
   congr 1
   omega
theorem nDigits_le:∀ (k u:Nat),u < 10 ^ (k + 1)→nDigits u≤k + 1
 | 0,u,h => by rw [nDigits_small (by simpa using h)];exact Nat.le_refl _
 | k + 1,u,h => by
  by_cases hu:u < 10
  ·rw [nDigits_small hu];omega
  ·rw [nDigits_big hu]
   have:=nDigits_le k (u / 10) (by rw [Nat.pow_succ] at h;omega)
   omega
theorem fits_digits (u:Nat):nDigits u≤18 ↔ u < 1000000000000000000:=by
 constructor
 ·intro h
  have h1:=lt_pow_nDigits u
  have h2:10 ^ nDigits u≤10 ^ 18:=Nat.pow_le_pow_right (by decide) h
  have:(10:Nat) ^ 18=1000000000000000000:=by decide
  omega
 ·intro h
  exact nDigits_le 17 u (by have:(10:Nat) ^ (17 + 1)=1000000000000000000:=(by decide);omega)
theorem trim_itoa (x:Int):(trimPrefix (itoa x) [45]).length=nDigits x.natAbs:=by
 unfold itoa
 by_cases h:x < 0
 ·rw [if_pos h]
  unfold trimPrefix hasPrefix
  rw [if_pos (by simp [List.isPrefixOf])]
  simp only [List.length_singleton,List.drop_one,List.tail_cons]
  exact decDigits_length _
 ·rw [if_neg h]
  unfold trimPrefix hasPrefix
  cases hd:decDigits x.toNat with
  | nil => exact absurd hd (dec_ne _)
  | cons c r =>
   have hc:=dec_digits x.toNat c (by rw [hd];exact List.mem_cons_self)
   have hn:¬ ((45:UInt8)==c)=true:=fun e => by
    have:=beq_iff_eq.1 e
    rw [← this] at hc
    exact absurd hc (by decide)
   rw [if_neg (by simp only [List.isPrefixOf,Bool.and_true];exact hn),← hd,decDigits_length]
   congr 1
   omega
def fit18 (x:Int):Bool:=decide (-1000000000000000000 < x∧x < 1000000000000000000)
theorem fit18_iff (x:Int):decide ((trimPrefix (itoa x) [45]).length≤18)=fit18 x:=by
 rw [trim_itoa]
 unfold fit18
 rw [Bool.eq_iff_iff,decide_eq_true_eq,decide_eq_true_eq,fits_digits]
 omega
end Go.Proofs.YtpofikjkccljlaaGreatDoor.Px
namespace Go.Proofs.YtpofikjkccljlaaGreatDoor.Px
open Go.RowKit Go.Proofs.YtpofikjkccljlaaGreatDoorW.PrintWords Go.Proofs.YtpofikjkccljlaaGreatDoorW.PrintLast Go.Proofs.YtpofikjkccljlaaGreatDoorW.PrintMore
set_option linter.unusedVariables false
set_option linter.unusedSimpArgs false
abbrev wordsV:Array Value:=#[.string ⟨#[114,117,110]⟩,.string ⟨#[105,110,112,117,116]⟩,.string ⟨#[99,108,111,99,107]⟩,.string ⟨#[116,105,99,107]⟩,.string ⟨#[100,101,108,105,118,101,114]⟩,.string ⟨#[100,114,111,112]⟩,.string ⟨#[116,119,105,99,101]⟩,.string ⟨#[99,114,97,115,104]⟩]
set_option maxHeartbeats 8000000 in
set_option maxRecDepth 100000 in
theorem words.calls (w:World):Calls Tryz.prog 27 #[] w fun e w' => e=.returned (.agg wordsV)∧Below w.heap.size w w':=by
 go_enter Tryz.func27,Tryz.ntmps27
 go_wp2
 refine bodyPost_ret (v:=.agg wordsV) ?_ rfl ⟨rfl,below_alloc (Below.refl _ _) _⟩
 simp [results,Tryz.results27,go_sem]
def nameV (k:Int):ByteArray:=if k=0 then ⟨#[114,117,110]⟩ else if k=1 then ⟨#[105,110,112,117,116]⟩ else if k=2 then ⟨#[99,108,111,99,107]⟩ else if k=3 then ⟨#[116,105,99,107]⟩ else if k=4 then ⟨#[100,101,108,105,118,101,114]⟩ else if k=5 then ⟨#[100,114,111,112]⟩ else if k=6 then ⟨#[116,119,105,99,101]⟩ else ⟨#[99,114,97,115,104]⟩
theorem words_at {k:Int} (h0:0≤k) (h7:k≤7):∀ W:World,(Instr.index 82 (.agg wordsV) (.int .i64 k)).run Tryz.prog W=.ok (.string (nameV k)) W:=by
 intro W
 obtain rfl|rfl|rfl|rfl|rfl|rfl|rfl|rfl:k=0 ∨ k=1 ∨ k=2 ∨ k=3 ∨ k=4 ∨ k=5 ∨ k=6 ∨ k=7:=by omega
 all_goals kernel_rfl
def outV (s:ByteArray):List Int→ByteArray × Int
 | [] => (s,0)
 | x :: l => if fit18 x=true then outV (s++(⟨#[32]⟩++⟨(Lib.itoa x).toArray⟩)) l else (⟨#[]⟩,1)
def numsL (k a b n:Int):List Int:=if k=0 then [a,b,n] else if k=1 ∨ k=2 then [a,n] else [a]
def printV (k a b n:Int):ByteArray × Int:=if k < 0 ∨ k > 7 then (⟨#[]⟩,1) else if k ≠ 0∧b ≠ 0 then (⟨#[]⟩,1) else if k ≠ 0∧k ≠ 1∧k ≠ 2∧n ≠ 0 then (⟨#[]⟩,1) else outV (nameV k) (numsL k a b n)
def I64 (x:Int):Prop:=-9223372036854775808≤x∧x≤9223372036854775807
theorem numV_itoa {x:Int} (h:I64 x):numV ⟨(Lib.itoa x).toArray⟩=(x,fit18 x):=by
 unfold numV
 simp only [List.toList_toArray]
 rw [parse_itoa h.1 h.2]
 have e:((Lib.itoa x)==(⟨(Lib.itoa x).toArray⟩:ByteArray).toList)=true:=by rw [Lib.toList_data];simp
 simp only [e,Bool.and_true,fit18_iff]
theorem name_size (k:Int):(nameV k).size≤100 + 30 * (0:Int).toNat:=by
 unfold nameV
 repeat' split
 all_goals decide
abbrev script_Print.ok (a b n:Int):Prop:=(-9223372036854775808≤a∧a≤9223372036854775807)∧(-9223372036854775808≤b∧b≤9223372036854775807)∧(-9223372036854775808≤n∧n≤9223372036854775807)
def script_Print.f (k a b n:Int):Option (ByteArray × Int):=if script_Print.ok a b n then some (printV k a b n) else none
set_option maxHeartbeats 80000000 in
set_option maxRecDepth 100000 in
theorem script_Print.calls (k a b n:Int) (r1:ByteArray) (r2:Int) (w:World) (hG:Aside0 (GG w)) (h:script_Print.f k a b n=some (r1,r2)) :
  Calls Tryz.prog 13 #[.agg #[.int .i64 k,.int .i64 a,.int .i64 b,.int .i64 n]] w fun e w' => e=.returned (.tuple #[.string r1,.int .i64 r2])∧Below w.heap.size w w':=by
 have hu23:=Tryz.underlying50
 have hu34:=Tryz.underlying80
 have hu38:=Tryz.underlying46
 unfold script_Print.f at h
 have hok:script_Print.ok a b n:=by
  by_cases hok:script_Print.ok a b n
  ·exact hok
  ·rw [if_neg hok] at h;cases h
 rw [if_pos hok] at h
 have HV:=Aside0.mk (Option.some.inj h)
 have HA:=Aside0.mk hok.1
 have HN:=Aside0.mk hok.2.2
 have HBB:=Aside0.mk hok.2.1
 clear h hok
 go_enter Tryz.func13,Tryz.ntmps13
 go_upto_region 1 with fail
 obtain ⟨W0,hW0⟩:∃ W0,W0=w.alloc (.cells #[.int .i64 k,.int .i64 a,.int .i64 b,.int .i64 n] 50 (0,0)):=⟨_,rfl⟩
 obtain ⟨ba,hba⟩:∃ ba,ba=w.heap.size:=⟨_,rfl⟩
 rw [← hW0,← hba]
 have HB:=Aside0.mk (show Below w.heap.size w W0 from by rw [hW0];exact below_alloc (Below.refl _ _) _)
 have KA:=Aside0.mk (show W0.heap[ba]?=some (.cells #[.int .i64 k,.int .i64 a,.int .i64 b,.int .i64 n] 50 (0,0)) from by rw [hW0,hba];exact blk_new _ _)
 clear hW0 hba
 have ca0:=(blk_cell KA.out 0).trans rfl
 have ca1:=(blk_cell KA.out 1).trans rfl
 have ca2:=(blk_cell KA.out 2).trans rfl
 have ca3:=(blk_cell KA.out 3).trans rfl
 by_cases hk:k < 0
 ·have d1:decide (k < 0)=true:=decide_eq_true hk
  have hv:printV k a b n=(⟨#[]⟩,1):=by unfold printV;rw [if_pos (.inl hk)]
  have hr:=hv.symm.trans HV.out
  injection hr with hr1 hr2
  subst hr1;subst hr2
  clear hv hk
  go_wp2
  go_ret2
  exact ⟨rfl,HB.out⟩
 have d1:decide (k < 0)=false:=decide_eq_false hk
 by_cases hk7:7 < k
 ·have d2:decide (7 < k)=true:=decide_eq_true hk7
  have hv:printV k a b n=(⟨#[]⟩,1):=by unfold printV;rw [if_pos (.inr hk7)]
  have hr:=hv.symm.trans HV.out
  injection hr with hr1 hr2
  subst hr1;subst hr2
  clear hv hk hk7
  go_wp2
  go_ret2
  exact ⟨rfl,HB.out⟩
 have d2:decide (7 < k)=false:=decide_eq_false hk7
 have HK:Aside0 (0≤k∧k≤7):=⟨by omega⟩
 have hix:=words_at (by omega:0≤k) (by omega:k≤7)
 go_upto_region 4 with fail
 obtain ⟨W1,hW1⟩:∃ W1,W1=W0.alloc (.cells #[.int .i64 a,.int .i64 b,.int .i64 n] 80 (0,0)):=⟨_,rfl⟩
 obtain ⟨bl,hbl⟩:∃ bl,bl=W0.heap.size:=⟨_,rfl⟩
 rw [← hW1,← hbl]
 have hb1:Below W0.heap.size W0 W1:=by rw [hW1];exact below_alloc (Below.refl _ _) _
 have HB1:=Aside0.mk (HB.out.trans (hb1.mono HB.out.size))
 have KA1:=Aside0.mk ((hb1.block _ (blk_lt KA.out)).trans KA.out)
 have KL1:=Aside0.mk (show W1.heap[bl]?=some (.cells #[.int .i64 a,.int .i64 b,.int .i64 n] 80 (0,0)) from by rw [hW1,hbl];exact blk_new _ _)
 have HNE:Aside0 (ba ≠ bl):=⟨by have:=blk_lt KA.out;omega⟩
 have HGE:Aside0 (w.heap.size≤bl):=⟨by rw [hbl];exact HB.out.size⟩
 clear hW1 hbl hb1 HB KA ca0 ca1 ca2 ca3 hk hk7 d1 d2
 have ca0:=(blk_cell KA1.out 0).trans rfl
 have ca1:=(blk_cell KA1.out 1).trans rfl
 have ca2:=(blk_cell KA1.out 2).trans rfl
 have ca3:=(blk_cell KA1.out 3).trans rfl
 go_wp2_with fail
 by_cases hc0:k=0
 ·skip
  refine (script_many.calls k 3 W1 (by unfold script_many.f;rw [if_pos hc0])).mono ?_
  rintro e W2 ⟨rfl,hd⟩
  have hb2:=hd.below
  have HB2:=Aside0.mk (HB1.out.trans (hb2.mono HB1.out.size))
  have KA2:=Aside0.mk ((hb2.block _ (blk_lt KA1.out)).trans KA1.out)
  have KL2:=Aside0.mk ((hb2.block _ (blk_lt KL1.out)).trans KL1.out)
  clear hd hb2 HB1 KA1 KL1 ca0 ca1 ca2 ca3
  have ca0:=(blk_cell KA2.out 0).trans rfl
  have ca1:=(blk_cell KA2.out 1).trans rfl
  have ca2:=(blk_cell KA2.out 2).trans rfl
  have ca3:=(blk_cell KA2.out 3).trans rfl
  have hv:outV (nameV k) [a,b,n]=(r1,r2):=by
   rw [← HV.out];unfold printV numsL;rw [if_neg (by omega),if_neg (by omega),if_neg (by omega),if_pos hc0]
  clear hc0
  go_upto_region 10 with fail
  have HB0:=Aside0.mk (show Below w.heap.size w W2.drew from HB2.out.trans ((below_drew (Below.refl _ _)).mono HB2.out.size))
  have KL0:=Aside0.mk (show W2.drew.heap[bl]?=some (.cells #[.int .i64 a,.int .i64 b,.int .i64 n] 80 (0,0)) from blk_drew KL2.out)
  clear HB2 KA2 KL2 ca1 ca2 ca3
  refine start_ (n:=5) (S:=fun w' => w'.cell? ⟨ba,0,none⟩=some (.int .i64 k)) (ds:=[]) #[false,false,false,false,false] (by kernel_rfl) rfl rfl (ca0) (fun hHeld => ?_)
  refine pure_ (i:=1) (N:=some 52) (v:=?_) (a':=?_) #[false,true,false,false,false] rfl rfl (by kernel_rfl) (fun _ _ _ h => h) (Or.inl ⟨by rfl,?_⟩) ?_ ?_
  rotate_left
  ·intro w'
   go_simp
   with_reducible rfl
  rotate_left
  ·simp only [Act.put,List.setIfInBounds_toArray,List.set_cons_zero,List.set_cons_succ,i64_w,i32_w]
   rfl
  refine take_ (i:=2) (N:=some 53) (v:=?_) (a':=?_) #[false,true,true,false,false] rfl rfl (by kernel_rfl) (fun _ _ _ h => h) (Or.inl ⟨by rfl,?_⟩) hHeld ?_ ?_
  rotate_left
  ·intro w' s0
   go_simp
   with_reducible rfl
  rotate_left
  ·simp only [Act.put,List.setIfInBounds_toArray,List.set_cons_zero,List.set_cons_succ,i64_w,i32_w]
   rfl
  refine one_ (i:=0) (N:=some 51) #[true,true,true,false,false] rfl rfl (by kernel_rfl) (by decide) (fun K hK => ?_)
  refine goes_ Tryz.func27 (by kernel_rfl) rfl #[] (by rfl) rfl rfl (by simp only [List.map_toArray,List.map_nil]) ?_
  refine (words.calls _).mono ?_
  rintro e w1' ⟨rfl,hbw⟩
  refine ⟨_,rfl,?_⟩
  have HB1:=Aside0.mk (Below.trans HB0.out (hbw.mono (below_size HB0.out)))
  have ca1:=pw_cell_below hbw ca0
  have KL1:=Aside0.mk ((hbw.block _ (blk_lt KL0.out)).trans KL0.out)
  clear hbw
  refine hK.out _ _ (ca1) (fun hHeld => ?_)
  clear hK K
  refine norm_ (a':=?_) ?_ ?_
  rotate_left
  ·show Act.put _ (some 51) _=_
   simp only [Act.put,List.setIfInBounds_toArray,List.set_cons_zero,List.set_cons_succ,i64_w,i32_w]
   rfl
  refine take_ (i:=3) (N:=some 54) (v:=?_) (a':=?_) #[true,true,true,true,false] rfl rfl (by kernel_rfl) (fun _ _ _ h => h) (Or.inl ⟨by rfl,?_⟩) hHeld ?_ ?_
  rotate_left
  ·intro w' s0
   go_simp
   with_reducible rfl
  rotate_left
  ·simp only [Act.put,List.setIfInBounds_toArray,List.set_cons_zero,List.set_cons_succ,i64_w,i32_w]
   rfl
  refine pure_ (i:=4) (N:=some 6) (v:=?_) (a':=?_) #[true,true,true,true,true] rfl rfl (by kernel_rfl) (fun _ _ _ h => h) (Or.inl ⟨by rfl,?_⟩) ?_ ?_
  rotate_left
  ·intro w'
   go_simp
   with_reducible rfl
  rotate_left
  ·simp only [Act.put,List.setIfInBounds_toArray,List.set_cons_zero,List.set_cons_succ,i64_w,i32_w]
   rfl
  refine done_ (by kernel_rfl) ?_
  clear hHeld ca0 ca1 KL0 HB0
  have lc0:=(blk_cell KL1.out 0).trans rfl
  have lc1:=(blk_cell KL1.out 1).trans rfl
  have lc2:=(blk_cell KL1.out 2).trans rfl
  go_wp2
  have HBT:=HB1
  have KLT:=KL1
  clear HB1 KL1 lc0 lc1 lc2
  go_loopw [58,6] (fun vi vs W => ∃ (i:Int) (s:ByteArray),vi=.int .i64 i∧vs=.string s∧Aside0 (0≤i∧i≤3)∧Aside0 (outV s ([a,b,n].drop i.toNat)=(r1,r2))∧Aside0 (s.size≤100 + 30 * i.toNat)∧Aside0 (Below w.heap.size w W)∧Aside0 (W.heap[bl]?=some (.cells #[.int .i64 a,.int .i64 b,.int .i64 n] 80 (0,0)))) (fun vi _ _ => 3 - (intOf vi).toNat)
  case atStart => exact ⟨0,nameV k,rfl,rfl,⟨by omega⟩,⟨hv⟩,⟨name_size k⟩,HBT,KLT⟩
  case round =>
   obtain ⟨i,s,rfl,rfl,HI,HO,HZ,HBr,KLr⟩:=hrel
   by_cases hi:i < 3
   ·have d1:decide (i < 3)=true:=decide_eq_true hi
    obtain ⟨x,l,hx,hl,hxc,hxr⟩:∃ x l,[a,b,n].drop i.toNat=x :: l∧[a,b,n].drop (i + 1).toNat=l∧wr.cell? ⟨bl,i.toNat,none⟩=some (.int .i64 x)∧(-9223372036854775808≤x∧x≤9223372036854775807):=by
     have h0:=HI.out.1
     obtain rfl|rfl|rfl:i=0 ∨ i=1 ∨ i=2:=by omega
     ·exact ⟨a,[b,n],rfl,rfl,(blk_cell KLr.out 0).trans rfl,HA.out⟩
     ·exact ⟨b,[n],rfl,rfl,(blk_cell KLr.out 1).trans rfl,HBB.out⟩
     ·exact ⟨n,[],rfl,rfl,(blk_cell KLr.out 2).trans rfl,HN.out⟩
    have HX:=Aside0.mk hxr
    have HO2:=Aside0.mk (show outV s (x :: l)=(r1,r2) from hx ▸ HO.out)
    have HLL:=Aside0.mk hl
    have HII:=Aside0.mk hi
    have p0:(0≤i)=True:=eq_true HI.out.1
    have p1:(i < 3)=True:=eq_true hi
    clear hx hl hxr hi HO
    go_wp2_with fail
    refine (Tryz.strconv_FormatInt_10 x HX.out.1 HX.out.2 wr (tab_below hG.out.tab HBr.out)).mono ?_
    rintro e w3 ⟨rfl,nn,os,hw⟩
    have HB3:=Aside0.mk (show Below wr.heap.size wr w3 from by rw [hw];exact (pw_below_drewN (Below.refl _ _) nn).trans ((grow_below (wr.drewN nn) os).mono (show wr.heap.size≤(wr.drewN nn).heap.size from Nat.le_refl _)))
    clear hw
    go_wp2_with fail
    have hlen:=Lib.itoa_length_le x HX.out.1 HX.out.2
    have hsz:(⟨(Lib.itoa x).toArray⟩:ByteArray).size≤21:=by show (Lib.itoa x).toArray.size≤21;rw [List.size_toArray];exact hlen
    have HB03:=Aside0.mk (HBr.out.trans (HB3.out.mono HBr.out.size))
    have hc:=number.calls ⟨(Lib.itoa x).toArray⟩ w3 (by omega) ⟨GG.below hG.out HB03.out⟩
    rw [numV_itoa HX.out] at hc
    refine hc.mono ?_
    clear hc
    rintro e w4 ⟨rfl,hb4⟩
    have HB4:=Aside0.mk (HB03.out.trans (hb4.mono HB03.out.size))
    have KL4:=Aside0.mk (((HB3.out.trans (hb4.mono HB3.out.size)).block _ (blk_lt KLr.out)).trans KLr.out)
    clear hb4 HB3 HB03 hxc KLr HBr
    by_cases hf:fit18 x=true
    ·rw [hf]
     have HO3:=Aside0.mk (show outV (s++(⟨#[32]⟩++⟨(Lib.itoa x).toArray⟩)) l=(r1,r2) from by rw [← HO2.out];exact (if_pos hf).symm)
     have HZZ:=HZ.out
     have HI2:=HI.out
     have g1:¬ 9223372036854775807 < 1 + (Lib.itoa x).length:=by omega
     have g2:¬ 9223372036854775807 < s.size + (1 + (Lib.itoa x).length):=by omega
     have hwi:wrap64 (i + 1)=i + 1:=by unfold wrap64;omega
     clear hf HZZ HI2
     go_wp2
     go_roundw
     case measure =>
      have:=HII.out
      have:=HI.out.1
      show 3 - (wrap64 (i + 1)).toNat < 3 - i.toNat
      rw [hwi]
      omega
     case rel =>
      rw [hwi]
      refine ⟨i + 1,_,rfl,rfl,⟨by have:=HII.out;have:=HI.out.1;omega⟩,⟨by rw [HLL.out];exact HO3.out⟩,⟨?_⟩,HB4,KL4⟩
      have hlen2:=HZ.out
      have:=HI.out.1
      rw [ByteArray.size_append,ByteArray.size_append]
      have:(⟨#[32]⟩:ByteArray).size=1:=rfl
      omega
    ·rw [Bool.eq_false_iff.2 hf]
     have hr:(⟨#[]⟩,1)=(r1,r2):=by rw [← HO2.out];unfold outV;rw [if_neg hf]
     injection hr with hr1 hr2
     subst hr1;subst hr2
     clear hf
     go_wp2
     go_ret2
     exact ⟨rfl,HB4.out⟩
   ·have d1:decide (i < 3)=false:=decide_eq_false hi
    have hr:(s,0)=(r1,r2):=by
     rw [← HO.out,List.drop_eq_nil_of_le (by simp only [List.length_cons,List.length_nil];have:=HI.out;omega)]
     rfl
    injection hr with hr1 hr2
    subst hr1;subst hr2
    clear hi
    go_wp2
    go_ret2
    exact ⟨rfl,HBr.out⟩
 by_cases hc1:k=1 ∨ k=2
 ·skip
  refine (script_many.calls k 2 W1 (by unfold script_many.f;rw [if_neg hc0];rcases hc1 with rfl|rfl <;> simp)).mono ?_
  rintro e W2 ⟨rfl,hd⟩
  have hb2:=hd.below
  have HB2:=Aside0.mk (HB1.out.trans (hb2.mono HB1.out.size))
  have KA2:=Aside0.mk ((hb2.block _ (blk_lt KA1.out)).trans KA1.out)
  have KL2:=Aside0.mk ((hb2.block _ (blk_lt KL1.out)).trans KL1.out)
  clear hd hb2 HB1 KA1 KL1 ca0 ca1 ca2 ca3
  have ca0:=(blk_cell KA2.out 0).trans rfl
  have ca1:=(blk_cell KA2.out 1).trans rfl
  have ca2:=(blk_cell KA2.out 2).trans rfl
  have ca3:=(blk_cell KA2.out 3).trans rfl
  by_cases hb0:b=0
  case neg =>
   have hv:printV k a b n=(⟨#[]⟩,1):=by unfold printV;rw [if_neg (by have:=HK.out;omega),if_pos ⟨hc0,hb0⟩]
   have e1:(b != 0)=true:=bne_iff_ne.mpr hb0
   clear hc0 hc1 hb0
   have hr:=hv.symm.trans HV.out
   injection hr with hr1 hr2
   subst hr1;subst hr2
   clear hv
   go_wp2
   go_ret2
   exact ⟨rfl,HB2.out⟩
  have hv:outV (nameV k) [a,n]=(r1,r2):=by
   have hK:=HK.out
   rw [← HV.out];unfold printV numsL;rw [if_neg (by omega),if_neg (by omega),if_neg (by omega),if_neg hc0,if_pos hc1]
  have e1:(b != 0)=false:=bne_eq_false_iff_eq.mpr hb0
  have lc1:=(blk_cell KL2.out 1).trans rfl
  have lf1:=blk_frozen KL2.out 1
  clear hc0 hc1 hb0
  go_upto_region 10 with fail
  obtain ⟨W3,hW3⟩:∃ W3,W3=W2.setCell ⟨bl,1,none⟩ (.int .i64 n):=⟨_,rfl⟩
  rw [← hW3]
  have HB3:=Aside0.mk (show Below w.heap.size w W3 from by rw [hW3];exact HB2.out.setCell (p:=⟨bl,1,none⟩) HGE.out _)
  have KA3:=Aside0.mk (show W3.heap[ba]?=some (.cells #[.int .i64 k,.int .i64 a,.int .i64 b,.int .i64 n] 50 (0,0)) from by rw [hW3];exact blk_far (p:=⟨bl,1,none⟩) KA2.out HNE.out _)
  have KL3:=Aside0.mk (show W3.heap[bl]?=some (.cells #[.int .i64 a,.int .i64 n,.int .i64 n] 80 (0,0)) from by rw [hW3];exact blk_set KL2.out 1 (.int .i64 n))
  clear hW3 HB2 KA2 KL2 ca0 ca1 ca2 ca3 lc1 lf1 e1
  have HB2:=HB3
  have KA2:=KA3
  have KL2:=KL3
  clear HB3 KA3 KL3
  have ca0:=(blk_cell KA2.out 0).trans rfl
  have ca1:=(blk_cell KA2.out 1).trans rfl
  have ca2:=(blk_cell KA2.out 2).trans rfl
  have ca3:=(blk_cell KA2.out 3).trans rfl
  have HB0:=Aside0.mk (show Below w.heap.size w W3.drew from HB2.out.trans ((below_drew (Below.refl _ _)).mono HB2.out.size))
  have KL0:=Aside0.mk (show W3.drew.heap[bl]?=some (.cells #[.int .i64 a,.int .i64 n,.int .i64 n] 80 (0,0)) from blk_drew KL2.out)
  clear HB2 KA2 KL2 ca1 ca2 ca3
  refine start_ (n:=5) (S:=fun w' => w'.cell? ⟨ba,0,none⟩=some (.int .i64 k)) (ds:=[]) #[false,false,false,false,false] (by kernel_rfl) rfl rfl (ca0) (fun hHeld => ?_)
  refine pure_ (i:=1) (N:=some 52) (v:=?_) (a':=?_) #[false,true,false,false,false] rfl rfl (by kernel_rfl) (fun _ _ _ h => h) (Or.inl ⟨by rfl,?_⟩) ?_ ?_
  rotate_left
  ·intro w'
   go_simp
   with_reducible rfl
  rotate_left
  ·simp only [Act.put,List.setIfInBounds_toArray,List.set_cons_zero,List.set_cons_succ,i64_w,i32_w]
   rfl
  refine take_ (i:=2) (N:=some 53) (v:=?_) (a':=?_) #[false,true,true,false,false] rfl rfl (by kernel_rfl) (fun _ _ _ h => h) (Or.inl ⟨by rfl,?_⟩) hHeld ?_ ?_
  rotate_left
  ·intro w' s0
   go_simp
   with_reducible rfl
  rotate_left
  ·simp only [Act.put,List.setIfInBounds_toArray,List.set_cons_zero,List.set_cons_succ,i64_w,i32_w]
   rfl
  refine one_ (i:=0) (N:=some 51) #[true,true,true,false,false] rfl rfl (by kernel_rfl) (by decide) (fun K hK => ?_)
  refine goes_ Tryz.func27 (by kernel_rfl) rfl #[] (by rfl) rfl rfl (by simp only [List.map_toArray,List.map_nil]) ?_
  refine (words.calls _).mono ?_
  rintro e w1' ⟨rfl,hbw⟩
  refine ⟨_,rfl,?_⟩
  have HB1:=Aside0.mk (Below.trans HB0.out (hbw.mono (below_size HB0.out)))
  have ca1:=pw_cell_below hbw ca0
  have KL1:=Aside0.mk ((hbw.block _ (blk_lt KL0.out)).trans KL0.out)
  clear hbw
  refine hK.out _ _ (ca1) (fun hHeld => ?_)
  clear hK K
  refine norm_ (a':=?_) ?_ ?_
  rotate_left
  ·show Act.put _ (some 51) _=_
   simp only [Act.put,List.setIfInBounds_toArray,List.set_cons_zero,List.set_cons_succ,i64_w,i32_w]
   rfl
  refine take_ (i:=3) (N:=some 54) (v:=?_) (a':=?_) #[true,true,true,true,false] rfl rfl (by kernel_rfl) (fun _ _ _ h => h) (Or.inl ⟨by rfl,?_⟩) hHeld ?_ ?_
  rotate_left
  ·intro w' s0
   go_simp
   with_reducible rfl
  rotate_left
  ·simp only [Act.put,List.setIfInBounds_toArray,List.set_cons_zero,List.set_cons_succ,i64_w,i32_w]
   rfl
  refine pure_ (i:=4) (N:=some 6) (v:=?_) (a':=?_) #[true,true,true,true,true] rfl rfl (by kernel_rfl) (fun _ _ _ h => h) (Or.inl ⟨by rfl,?_⟩) ?_ ?_
  rotate_left
  ·intro w'
   go_simp
   with_reducible rfl
  rotate_left
  ·simp only [Act.put,List.setIfInBounds_toArray,List.set_cons_zero,List.set_cons_succ,i64_w,i32_w]
   rfl
  refine done_ (by kernel_rfl) ?_
  clear hHeld ca0 ca1 KL0 HB0
  have lc0:=(blk_cell KL1.out 0).trans rfl
  have lc1:=(blk_cell KL1.out 1).trans rfl
  have lc2:=(blk_cell KL1.out 2).trans rfl
  go_wp2
  have HBT:=HB1
  have KLT:=KL1
  clear HB1 KL1 lc0 lc1 lc2
  go_loopw [58,6] (fun vi vs W => ∃ (i:Int) (s:ByteArray),vi=.int .i64 i∧vs=.string s∧Aside0 (0≤i∧i≤2)∧Aside0 (outV s ([a,n].drop i.toNat)=(r1,r2))∧Aside0 (s.size≤100 + 30 * i.toNat)∧Aside0 (Below w.heap.size w W)∧Aside0 (W.heap[bl]?=some (.cells #[.int .i64 a,.int .i64 n,.int .i64 n] 80 (0,0)))) (fun vi _ _ => 2 - (intOf vi).toNat)
  case atStart => exact ⟨0,nameV k,rfl,rfl,⟨by omega⟩,⟨hv⟩,⟨name_size k⟩,HBT,KLT⟩
  case round =>
   obtain ⟨i,s,rfl,rfl,HI,HO,HZ,HBr,KLr⟩:=hrel
   by_cases hi:i < 2
   ·have d1:decide (i < 2)=true:=decide_eq_true hi
    obtain ⟨x,l,hx,hl,hxc,hxr⟩:∃ x l,[a,n].drop i.toNat=x :: l∧[a,n].drop (i + 1).toNat=l∧wr.cell? ⟨bl,i.toNat,none⟩=some (.int .i64 x)∧(-9223372036854775808≤x∧x≤9223372036854775807):=by
     have h0:=HI.out.1
     obtain rfl|rfl:i=0 ∨ i=1:=by omega
     ·exact ⟨a,[n],rfl,rfl,(blk_cell KLr.out 0).trans rfl,HA.out⟩
     ·exact ⟨n,[],rfl,rfl,(blk_cell KLr.out 1).trans rfl,HN.out⟩
    have HX:=Aside0.mk hxr
    have HO2:=Aside0.mk (show outV s (x :: l)=(r1,r2) from hx ▸ HO.out)
    have HLL:=Aside0.mk hl
    have HII:=Aside0.mk hi
    have p0:(0≤i)=True:=eq_true HI.out.1
    have p1:(i < 2)=True:=eq_true hi
    clear hx hl hxr hi HO
    go_wp2_with fail
    refine (Tryz.strconv_FormatInt_10 x HX.out.1 HX.out.2 wr (tab_below hG.out.tab HBr.out)).mono ?_
    rintro e w3 ⟨rfl,nn,os,hw⟩
    have HB3:=Aside0.mk (show Below wr.heap.size wr w3 from by rw [hw];exact (pw_below_drewN (Below.refl _ _) nn).trans ((grow_below (wr.drewN nn) os).mono (show wr.heap.size≤(wr.drewN nn).heap.size from Nat.le_refl _)))
    clear hw
    go_wp2_with fail
    have hlen:=Lib.itoa_length_le x HX.out.1 HX.out.2
    have hsz:(⟨(Lib.itoa x).toArray⟩:ByteArray).size≤21:=by show (Lib.itoa x).toArray.size≤21;rw [List.size_toArray];exact hlen
    have HB03:=Aside0.mk (HBr.out.trans (HB3.out.mono HBr.out.size))
    have hc:=number.calls ⟨(Lib.itoa x).toArray⟩ w3 (by omega) ⟨GG.below hG.out HB03.out⟩
    rw [numV_itoa HX.out] at hc
    refine hc.mono ?_
    clear hc
    rintro e w4 ⟨rfl,hb4⟩
    have HB4:=Aside0.mk (HB03.out.trans (hb4.mono HB03.out.size))
    have KL4:=Aside0.mk (((HB3.out.trans (hb4.mono HB3.out.size)).block _ (blk_lt KLr.out)).trans KLr.out)
    clear hb4 HB3 HB03 hxc KLr HBr
    by_cases hf:fit18 x=true
    ·rw [hf]
     have HO3:=Aside0.mk (show outV (s++(⟨#[32]⟩++⟨(Lib.itoa x).toArray⟩)) l=(r1,r2) from by rw [← HO2.out];exact (if_pos hf).symm)
     have HZZ:=HZ.out
     have HI2:=HI.out
     have g1:¬ 9223372036854775807 < 1 + (Lib.itoa x).length:=by omega
     have g2:¬ 9223372036854775807 < s.size + (1 + (Lib.itoa x).length):=by omega
     have hwi:wrap64 (i + 1)=i + 1:=by unfold wrap64;omega
     clear hf HZZ HI2
     go_wp2
     go_roundw
     case measure =>
      have:=HII.out
      have:=HI.out.1
      show 2 - (wrap64 (i + 1)).toNat < 2 - i.toNat
      rw [hwi]
      omega
     case rel =>
      rw [hwi]
      refine ⟨i + 1,_,rfl,rfl,⟨by have:=HII.out;have:=HI.out.1;omega⟩,⟨by rw [HLL.out];exact HO3.out⟩,⟨?_⟩,HB4,KL4⟩
      have hlen2:=HZ.out
      have:=HI.out.1
      rw [ByteArray.size_append,ByteArray.size_append]
      have:(⟨#[32]⟩:ByteArray).size=1:=rfl
      omega
    ·rw [Bool.eq_false_iff.2 hf]
     have hr:(⟨#[]⟩,1)=(r1,r2):=by rw [← HO2.out];unfold outV;rw [if_neg hf]
     injection hr with hr1 hr2
     subst hr1;subst hr2
     clear hf
     go_wp2
     go_ret2
     exact ⟨rfl,HB4.out⟩
   ·have d1:decide (i < 2)=false:=decide_eq_false hi
    have hr:(s,0)=(r1,r2):=by
     rw [← HO.out,List.drop_eq_nil_of_le (by simp only [List.length_cons,List.length_nil];have:=HI.out;omega)]
     rfl
    injection hr with hr1 hr2
    subst hr1;subst hr2
    clear hi
    go_wp2
    go_ret2
    exact ⟨rfl,HBr.out⟩
 refine (script_many.calls k 1 W1 (by unfold script_many.f;rw [if_neg hc0,if_neg (by omega),if_neg (by omega)])).mono ?_
 rintro e W2 ⟨rfl,hd⟩
 have hb2:=hd.below
 have HB2:=Aside0.mk (HB1.out.trans (hb2.mono HB1.out.size))
 have KA2:=Aside0.mk ((hb2.block _ (blk_lt KA1.out)).trans KA1.out)
 have KL2:=Aside0.mk ((hb2.block _ (blk_lt KL1.out)).trans KL1.out)
 clear hd hb2 HB1 KA1 KL1 ca0 ca1 ca2 ca3
 have ca0:=(blk_cell KA2.out 0).trans rfl
 have ca1:=(blk_cell KA2.out 1).trans rfl
 have ca2:=(blk_cell KA2.out 2).trans rfl
 have ca3:=(blk_cell KA2.out 3).trans rfl
 by_cases hb0:b=0
 case neg =>
  have hv:printV k a b n=(⟨#[]⟩,1):=by unfold printV;rw [if_neg (by have:=HK.out;omega),if_pos ⟨hc0,hb0⟩]
  have e1:(b != 0)=true:=bne_iff_ne.mpr hb0
  clear hc0 hc1 hb0
  have hr:=hv.symm.trans HV.out
  injection hr with hr1 hr2
  subst hr1;subst hr2
  clear hv
  go_wp2
  go_ret2
  exact ⟨rfl,HB2.out⟩
 have e1:(b != 0)=false:=bne_eq_false_iff_eq.mpr hb0
 by_cases hn0:n=0
 case neg =>
  have hv:printV k a b n=(⟨#[]⟩,1):=by unfold printV;rw [if_neg (by have:=HK.out;omega),if_neg (by omega),if_pos ⟨hc0,by omega,by omega,hn0⟩]
  have e2:(n != 0)=true:=bne_iff_ne.mpr hn0
  clear hc0 hc1 hb0 hn0
  have hr:=hv.symm.trans HV.out
  injection hr with hr1 hr2
  subst hr1;subst hr2
  clear hv
  go_wp2
  go_ret2
  exact ⟨rfl,HB2.out⟩
 have e2:(n != 0)=false:=bne_eq_false_iff_eq.mpr hn0
 have hv:outV (nameV k) [a]=(r1,r2):=by
  have hK:=HK.out
  rw [← HV.out];unfold printV numsL;rw [if_neg (by omega),if_neg (by omega),if_neg (by omega),if_neg hc0,if_neg hc1]
 clear hc0 hc1 hb0 hn0
 go_upto_region 10 with fail
 clear e1 e2
 have HB0:=Aside0.mk (show Below w.heap.size w W2.drew from HB2.out.trans ((below_drew (Below.refl _ _)).mono HB2.out.size))
 have KL0:=Aside0.mk (show W2.drew.heap[bl]?=some (.cells #[.int .i64 a,.int .i64 b,.int .i64 n] 80 (0,0)) from blk_drew KL2.out)
 clear HB2 KA2 KL2 ca1 ca2 ca3
 refine start_ (n:=5) (S:=fun w' => w'.cell? ⟨ba,0,none⟩=some (.int .i64 k)) (ds:=[]) #[false,false,false,false,false] (by kernel_rfl) rfl rfl (ca0) (fun hHeld => ?_)
 refine pure_ (i:=1) (N:=some 52) (v:=?_) (a':=?_) #[false,true,false,false,false] rfl rfl (by kernel_rfl) (fun _ _ _ h => h) (Or.inl ⟨by rfl,?_⟩) ?_ ?_
 rotate_left
 ·intro w'
  go_simp
  with_reducible rfl
 rotate_left
 ·simp only [Act.put,List.setIfInBounds_toArray,List.set_cons_zero,List.set_cons_succ,i64_w,i32_w]
  rfl
 refine take_ (i:=2) (N:=some 53) (v:=?_) (a':=?_) #[false,true,true,false,false] rfl rfl (by kernel_rfl) (fun _ _ _ h => h) (Or.inl ⟨by rfl,?_⟩) hHeld ?_ ?_
 rotate_left
 ·intro w' s0
  go_simp
  with_reducible rfl
 rotate_left
 ·simp only [Act.put,List.setIfInBounds_toArray,List.set_cons_zero,List.set_cons_succ,i64_w,i32_w]
  rfl
 refine one_ (i:=0) (N:=some 51) #[true,true,true,false,false] rfl rfl (by kernel_rfl) (by decide) (fun K hK => ?_)
 refine goes_ Tryz.func27 (by kernel_rfl) rfl #[] (by rfl) rfl rfl (by simp only [List.map_toArray,List.map_nil]) ?_
 refine (words.calls _).mono ?_
 rintro e w1' ⟨rfl,hbw⟩
 refine ⟨_,rfl,?_⟩
 have HB1:=Aside0.mk (Below.trans HB0.out (hbw.mono (below_size HB0.out)))
 have ca1:=pw_cell_below hbw ca0
 have KL1:=Aside0.mk ((hbw.block _ (blk_lt KL0.out)).trans KL0.out)
 clear hbw
 refine hK.out _ _ (ca1) (fun hHeld => ?_)
 clear hK K
 refine norm_ (a':=?_) ?_ ?_
 rotate_left
 ·show Act.put _ (some 51) _=_
  simp only [Act.put,List.setIfInBounds_toArray,List.set_cons_zero,List.set_cons_succ,i64_w,i32_w]
  rfl
 refine take_ (i:=3) (N:=some 54) (v:=?_) (a':=?_) #[true,true,true,true,false] rfl rfl (by kernel_rfl) (fun _ _ _ h => h) (Or.inl ⟨by rfl,?_⟩) hHeld ?_ ?_
 rotate_left
 ·intro w' s0
  go_simp
  with_reducible rfl
 rotate_left
 ·simp only [Act.put,List.setIfInBounds_toArray,List.set_cons_zero,List.set_cons_succ,i64_w,i32_w]
  rfl
 refine pure_ (i:=4) (N:=some 6) (v:=?_) (a':=?_) #[true,true,true,true,true] rfl rfl (by kernel_rfl) (fun _ _ _ h => h) (Or.inl ⟨by rfl,?_⟩) ?_ ?_
 rotate_left
 ·intro w'
  go_simp
  with_reducible rfl
 rotate_left
 ·simp only [Act.put,List.setIfInBounds_toArray,List.set_cons_zero,List.set_cons_succ,i64_w,i32_w]
  rfl
 refine done_ (by kernel_rfl) ?_
 clear hHeld ca0 ca1 KL0 HB0
 have lc0:=(blk_cell KL1.out 0).trans rfl
 have lc1:=(blk_cell KL1.out 1).trans rfl
 have lc2:=(blk_cell KL1.out 2).trans rfl
 go_wp2
 have HBT:=HB1
 have KLT:=KL1
 clear HB1 KL1 lc0 lc1 lc2
 go_loopw [58,6] (fun vi vs W => ∃ (i:Int) (s:ByteArray),vi=.int .i64 i∧vs=.string s∧Aside0 (0≤i∧i≤1)∧Aside0 (outV s ([a].drop i.toNat)=(r1,r2))∧Aside0 (s.size≤100 + 30 * i.toNat)∧Aside0 (Below w.heap.size w W)∧Aside0 (W.heap[bl]?=some (.cells #[.int .i64 a,.int .i64 b,.int .i64 n] 80 (0,0)))) (fun vi _ _ => 1 - (intOf vi).toNat)
 case atStart => exact ⟨0,nameV k,rfl,rfl,⟨by omega⟩,⟨hv⟩,⟨name_size k⟩,HBT,KLT⟩
 case round =>
  obtain ⟨i,s,rfl,rfl,HI,HO,HZ,HBr,KLr⟩:=hrel
  by_cases hi:i < 1
  ·have d1:decide (i < 1)=true:=decide_eq_true hi
   obtain ⟨x,l,hx,hl,hxc,hxr⟩:∃ x l,[a].drop i.toNat=x :: l∧[a].drop (i + 1).toNat=l∧wr.cell? ⟨bl,i.toNat,none⟩=some (.int .i64 x)∧(-9223372036854775808≤x∧x≤9223372036854775807):=by
    have h0:=HI.out.1
    obtain rfl:i=0:=by omega
    ·exact ⟨a,[],rfl,rfl,(blk_cell KLr.out 0).trans rfl,HA.out⟩
   have HX:=Aside0.mk hxr
   have HO2:=Aside0.mk (show outV s (x :: l)=(r1,r2) from hx ▸ HO.out)
   have HLL:=Aside0.mk hl
   have HII:=Aside0.mk hi
   have p0:(0≤i)=True:=eq_true HI.out.1
   have p1:(i < 1)=True:=eq_true hi
   clear hx hl hxr hi HO
   go_wp2_with fail
   refine (Tryz.strconv_FormatInt_10 x HX.out.1 HX.out.2 wr (tab_below hG.out.tab HBr.out)).mono ?_
   rintro e w3 ⟨rfl,nn,os,hw⟩
   have HB3:=Aside0.mk (show Below wr.heap.size wr w3 from by rw [hw];exact (pw_below_drewN (Below.refl _ _) nn).trans ((grow_below (wr.drewN nn) os).mono (show wr.heap.size≤(wr.drewN nn).heap.size from Nat.le_refl _)))
   clear hw
   go_wp2_with fail
   have hlen:=Lib.itoa_length_le x HX.out.1 HX.out.2
   have hsz:(⟨(Lib.itoa x).toArray⟩:ByteArray).size≤21:=by show (Lib.itoa x).toArray.size≤21;rw [List.size_toArray];exact hlen
   have HB03:=Aside0.mk (HBr.out.trans (HB3.out.mono HBr.out.size))
   have hc:=number.calls ⟨(Lib.itoa x).toArray⟩ w3 (by omega) ⟨GG.below hG.out HB03.out⟩
   rw [numV_itoa HX.out] at hc
   refine hc.mono ?_
   clear hc
   rintro e w4 ⟨rfl,hb4⟩
   have HB4:=Aside0.mk (HB03.out.trans (hb4.mono HB03.out.size))
   have KL4:=Aside0.mk (((HB3.out.trans (hb4.mono HB3.out.size)).block _ (blk_lt KLr.out)).trans KLr.out)
   clear hb4 HB3 HB03 hxc KLr HBr
   by_cases hf:fit18 x=true
   ·rw [hf]
    have HO3:=Aside0.mk (show outV (s++(⟨#[32]⟩++⟨(Lib.itoa x).toArray⟩)) l=(r1,r2) from by rw [← HO2.out];exact (if_pos hf).symm)
    have HZZ:=HZ.out
    have HI2:=HI.out
    have g1:¬ 9223372036854775807 < 1 + (Lib.itoa x).length:=by omega
    have g2:¬ 9223372036854775807 < s.size + (1 + (Lib.itoa x).length):=by omega
    have hwi:wrap64 (i + 1)=i + 1:=by unfold wrap64;omega
    clear hf HZZ HI2
    go_wp2
    go_roundw
    case measure =>
     have:=HII.out
     have:=HI.out.1
     show 1 - (wrap64 (i + 1)).toNat < 1 - i.toNat
     rw [hwi]
     omega
    case rel =>
     rw [hwi]
     refine ⟨i + 1,_,rfl,rfl,⟨by have:=HII.out;have:=HI.out.1;omega⟩,⟨by rw [HLL.out];exact HO3.out⟩,⟨?_⟩,HB4,KL4⟩
     have hlen2:=HZ.out
     have:=HI.out.1
     rw [ByteArray.size_append,ByteArray.size_append]
     have:(⟨#[32]⟩:ByteArray).size=1:=rfl
     omega
   ·rw [Bool.eq_false_iff.2 hf]
    have hr:(⟨#[]⟩,1)=(r1,r2):=by rw [← HO2.out];unfold outV;rw [if_neg hf]
    injection hr with hr1 hr2
    subst hr1;subst hr2
    clear hf
    go_wp2
    go_ret2
    exact ⟨rfl,HB4.out⟩
  ·have d1:decide (i < 1)=false:=decide_eq_false hi
   have hr:(s,0)=(r1,r2):=by
    rw [← HO.out,List.drop_eq_nil_of_le (by simp only [List.length_cons,List.length_nil];have:=HI.out;omega)]
    rfl
   injection hr with hr1 hr2
   subst hr1;subst hr2
   clear hi
   go_wp2
   go_ret2
   exact ⟨rfl,HBr.out⟩
end Go.Proofs.YtpofikjkccljlaaGreatDoor.Px
namespace Go.Proofs.YtpofikjkccljlaaGreatDoor.Px
open Go.RowKit Go.Proofs.YtpofikjkccljlaaGreatDoorW.PrintWords Go.Proofs.YtpofikjkccljlaaGreatDoorW.PrintLast Go.Proofs.YtpofikjkccljlaaGreatDoorW.PrintMore
set_option linter.unusedVariables false
set_option linter.unusedSimpArgs false
def kindL (s : ByteArray) : List Int → Int
  | [] => -1
  | k :: l => if nameV k = s then k else kindL s l
def kindV (s : ByteArray) : Int := kindL s [0, 1, 2, 3, 4, 5, 6, 7]
def script_kind.f (a0 : ByteArray) : Option Int := some (kindV a0)
set_option maxHeartbeats 8000000 in
set_option maxRecDepth 100000 in
theorem script_kind.calls (a0 : ByteArray) (r : Int) (w : World) (h : script_kind.f a0 = some r) :
    Calls Tryz.prog 32 #[.string a0] w fun e w' => e = .returned (.int .i64 r) ∧ Below w.heap.size w w' := by
  have HK0 := Aside0.mk (Option.some.inj h)
  clear h
  go_enter Tryz.func32, Tryz.ntmps32
  go_wp2_with fail
  refine (words.calls _).mono ?_
  rintro e w1 ⟨rfl, hb⟩
  have HBT := Aside0.mk hb
  clear hb
  go_wp2
  go_loopw [6] (fun vi W => ∃ i : Int, vi = .int .i64 i ∧ Aside0 (0 ≤ i ∧ i ≤ 8) ∧ Aside0 (kindL a0 (([0, 1, 2, 3, 4, 5, 6, 7] : List Int).drop i.toNat) = r) ∧ Aside0 (Below w.heap.size w W)) (fun vi _ => 8 - (intOf vi).toNat)
  case atStart => exact ⟨0, rfl, ⟨by omega⟩, HK0, HBT⟩
  case round =>
    obtain ⟨i, rfl, HI, HK, HBr⟩ := hrel
    by_cases hi : i < 8
    · have d1 : decide (i < 8) = true := decide_eq_true hi
      have hx : ([0, 1, 2, 3, 4, 5, 6, 7] : List Int).drop i.toNat = i :: ([0, 1, 2, 3, 4, 5, 6, 7] : List Int).drop (i + 1).toNat := by
        have h0 := HI.out.1
        obtain rfl | rfl | rfl | rfl | rfl | rfl | rfl | rfl : i = 0 ∨ i = 1 ∨ i = 2 ∨ i = 3 ∨ i = 4 ∨ i = 5 ∨ i = 6 ∨ i = 7 := by omega
        all_goals rfl
      have hix := words_at HI.out.1 (by omega : i ≤ 7)
      have hwi : wrap64 (i + 1) = i + 1 := by have := HI.out; unfold wrap64; omega
      have HII := Aside0.mk hi
      by_cases he : nameV i = a0
      · have e1 : ((nameV i).toList == a0.toList) = true := by rw [he]; simp
        have e3 : decide (nameV i = a0) = true := decide_eq_true he
        have hr : i = r := by rw [← HK.out, hx]; exact (if_pos he).symm
        clear HK
        subst hr
        clear hx hi he
        go_wp2
        go_ret
        exact ⟨rfl, HBr.out⟩
      · have e3 : decide (nameV i = a0) = false := decide_eq_false he
        have e1 : ((nameV i).toList == a0.toList) = false := by
          rw [beq_eq_false_iff_ne]
          intro h1
          refine he ?_
          rw [Lib.toList_data, Lib.toList_data] at h1
          have h2 := Array.toList_inj.1 h1
          cases hn : nameV i; cases a0; simp_all
        have HK2 := Aside0.mk (show kindL a0 (([0, 1, 2, 3, 4, 5, 6, 7] : List Int).drop (i + 1).toNat) = r by rw [← HK.out, hx]; exact (if_neg he).symm)
        clear hx hi he HK
        go_wp2
        go_roundw
        case measure =>
          have := HII.out
          have := HI.out.1
          show 8 - (wrap64 (i + 1)).toNat < 8 - i.toNat
          rw [hwi]
          omega
        case rel =>
          rw [hwi]
          exact ⟨i + 1, rfl, ⟨by have := HII.out; have := HI.out.1; omega⟩, HK2, HBr⟩
    · have d1 : decide (i < 8) = false := decide_eq_false hi
      have hr : -1 = r := by
        rw [← HK.out, List.drop_eq_nil_of_le (by simp only [List.length_cons, List.length_nil]; have := HI.out; omega)]
        rfl
      clear HK
      subst hr
      clear hi
      go_wp2
      go_ret
      exact ⟨rfl, HBr.out⟩
def hexN (c : Int) : Int := if c < 128 then Lib.indexByte ([48, 49, 50, 51, 52, 53, 54, 55, 56, 57, 97, 98, 99, 100, 101, 102] : List UInt8) (c % 256).toNat.toUInt8 else -1
def hexL (s : ByteArray) : Nat → Nat → List Int → Int → Option (List Int × Int)
  | 0, _, out, high => some (out, high)
  | k + 1, pos, out, high => if pos < s.size then
      (if hexN (Utf8.decode s pos).1 < 0 then none
       else if high < 0 then hexL s k (pos + (Utf8.decode s pos).2) out (hexN (Utf8.decode s pos).1)
       else hexL s k (pos + (Utf8.decode s pos).2) (out ++ [(16 * high + hexN (Utf8.decode s pos).1) % 256]) (-1))
    else some (out, high)
theorem hexN_le (c : Int) : -1 ≤ hexN c ∧ hexN c ≤ 15 := by
  unfold hexN
  split
  · have h1 := Lib.indexByte_ge ([48, 49, 50, 51, 52, 53, 54, 55, 56, 57, 97, 98, 99, 100, 101, 102] : List UInt8) (c % 256).toNat.toUInt8
    refine ⟨h1, ?_⟩
    by_cases h2 : 0 ≤ Lib.indexByte ([48, 49, 50, 51, 52, 53, 54, 55, 56, 57, 97, 98, 99, 100, 101, 102] : List UInt8) (c % 256).toNat.toUInt8
    · have h3 := (Lib.indexByte_some (o := (Lib.indexByte ([48, 49, 50, 51, 52, 53, 54, 55, 56, 57, 97, 98, 99, 100, 101, 102] : List UInt8) (c % 256).toNat.toUInt8).toNat) (Int.toNat_of_nonneg h2).symm).1
      obtain ⟨h4, _⟩ := List.getElem?_eq_some_iff.1 h3
      simp only [List.length_cons, List.length_nil] at h4
      omega
    · omega
  · omega
end Go.Proofs.YtpofikjkccljlaaGreatDoor.Px
namespace Go.Proofs.YtpofikjkccljlaaGreatDoor.Px
open Go.RowKit Go.Proofs.YtpofikjkccljlaaGreatDoorW.PrintWords Go.Proofs.YtpofikjkccljlaaGreatDoorW.PrintLast Go.Proofs.YtpofikjkccljlaaGreatDoorW.PrintMore
set_option linter.unusedVariables false
set_option linter.unusedSimpArgs false
theorem hex_info:(Tryz.prog.info? 5).map (fun i => (i.zero,i.size,i.bytes))=some (some (.int .u8 0),1,1):=by kernel_rfl
def hexO (ok:Bool) (x:Option (List Int × Int)):List Int × Bool:=match x with
 | none => ([],false)
 | some (out,high) => (out,ok && decide (high < 0))
def script_hex.f (a0:ByteArray):Option (List Int × Bool):=if a0.size≤4294967296 then
 some (hexO (Lib.hasPrefix a0.data.toList (⟨#[61]⟩:ByteArray).data.toList) (hexL ⟨(Lib.trimPrefix a0.data.toList (⟨#[61]⟩:ByteArray).data.toList).toArray⟩ (⟨(Lib.trimPrefix a0.data.toList (⟨#[61]⟩:ByteArray).data.toList).toArray⟩:ByteArray).size 0 [] (-1))) else none
theorem trim_size (a0 p:ByteArray):(⟨(Lib.trimPrefix a0.data.toList p.data.toList).toArray⟩:ByteArray).size≤a0.size:=by
 show (Lib.trimPrefix a0.data.toList p.data.toList).toArray.size≤a0.data.size
 rw [List.size_toArray]
 have:=Lib.trimPrefix_le a0.data.toList p.data.toList
 rw [Array.length_toList] at this
 exact this
theorem or_hex {h n:Int} (h0:0≤h) (h1:h≤15) (n0:0≤n) (n1:n≤15):Go.bits .or .i32 (wrap32 (h * 16)) n % 256=(16 * h + n) % 256:=by
 have e:∀ a b:Fin 16,Go.bits .or .i32 (wrap32 (((a.val:Nat):Int) * 16)) ((b.val:Nat):Int) % 256=(16 * ((a.val:Nat):Int) + ((b.val:Nat):Int)) % 256:=by decide +kernel
 have:=e ⟨h.toNat,by omega⟩ ⟨n.toNat,by omega⟩
 simp only [Int.toNat_of_nonneg h0,Int.toNat_of_nonneg n0] at this
 exact this
set_option maxHeartbeats 8000000 in
set_option maxRecDepth 100000 in
theorem script_hex.calls (a0:ByteArray) (r1:List Int) (r2:Bool) (w:World) (h:script_hex.f a0=some (r1,r2)) :
  Calls Tryz.prog 31 #[.string a0] w fun e w' => ∃ v0_:Value,e=.returned (.tuple #[v0_,.bool r2])∧Kd.R (Kd.int .u8) 5 w' w.heap.size (fun _ => True) v0_ r1∧Below w.heap.size w w':=by
 have hu:=Tryz.underlying45
 have hu9:=Tryz.underlying9
 unfold script_hex.f at h
 have hsz:a0.size≤4294967296:=by
  by_cases hs:a0.size≤4294967296
  ·exact hs
  ·rw [if_neg hs] at h;cases h
 rw [if_pos hsz] at h
 have HV0:=Option.some.inj h
 have hrs:=trim_size a0 ⟨#[61]⟩
 clear h
 go_enter Tryz.func31,Tryz.ntmps31
 go_wp2_with fail
 refine (Tryz.strings_CutPrefix a0 ⟨#[61]⟩ w).mono ?_
 rintro e w1 ⟨rfl,hw1⟩
 obtain rfl:w=w1:=hw1.symm
 generalize hre:(⟨(Lib.trimPrefix a0.data.toList (⟨#[61]⟩:ByteArray).data.toList).toArray⟩:ByteArray)=rest at HV0 hrs ⊢
 generalize hok:Lib.hasPrefix a0.data.toList (⟨#[61]⟩:ByteArray).data.toList=ok at HV0 ⊢
 have HV:=Aside0.mk HV0
 have HRS:=Aside0.mk (show rest.size≤4294967296 by omega)
 have HB0:=Aside0.mk (below_alloc (Below.refl w.heap.size w) (.stringIter rest 0))
 clear HV0 hrs hsz hre hok
 go_wp2
 go_loopw [6,7] (fun vo vh W => ∃ (out:List Int) (high:Int) (pos fuel:Nat),vh=.int .i32 high∧Aside0 (Kd.R (Kd.int .u8) 5 W (w.heap.size + 1) (fun k => w.heap.size < k) vo out)∧Aside0 (W.heap[w.heap.size]?=some (.stringIter rest pos))∧Aside0 (Below w.heap.size w W)∧Aside0 (-1≤high∧high≤15)∧Aside0 (out.length≤pos∧rest.size≤pos + fuel)∧Aside0 (hexO ok (hexL rest fuel pos out high)=(r1,r2))) (fun _ _ W => rest.size - W.iterPos w.heap.size)
 case atStart => exact ⟨[],-1,0,rest.size,rfl,⟨Kd.R_nil _ _ _ _ _⟩,⟨World.iter_heap _ _ _⟩,HB0,⟨by omega⟩,⟨by simp⟩,HV⟩
 case round =>
  obtain ⟨out,high,pos,fuel,rfl,HO,HIT,HBr,HH,HL,HX⟩:=hrel
  by_cases hp:pos < rest.size
  ·have hnx:=fun ty => Lib.run_next_any_at (P:=Tryz.prog) wr w.heap.size rest pos ty HIT.out hp
   obtain ⟨c,hc⟩:∃ c:Nat,(Utf8.decode rest pos).1=c:=⟨_,rfl⟩
   obtain ⟨p2,hp2⟩:∃ p:Nat,pos + (Utf8.decode rest pos).2=p:=⟨_,rfl⟩
   rw [hc,hp2] at hnx
   have HC1:=Aside0.mk hc
   have HBn:=Aside0.mk (Lib.below_iterAt HBr.out (Nat.le_refl w.heap.size) rest p2)
   have HITn:=Aside0.mk (Lib.iterAt_heap wr w.heap.size rest pos p2 HIT.out)
   have HOn:=Aside0.mk (Kd.R_move (w1:=wr.iterAt w.heap.size rest p2) HO.out (fun k hk => Lib.iterAt_other wr w.heap.size k rest p2 (by omega)))
   obtain ⟨f,rfl⟩:∃ f,fuel=f + 1:=⟨fuel - 1,by have:=HL.out.2;omega⟩
   have hp2':pos + 1≤p2:=by have:=Lib.decode_width_pos rest pos hp;omega
   have HP:=Aside0.mk hp
   have HP2:=Aside0.mk hp2'
   have HM:=Aside0.mk (show rest.size - (wr.iterAt w.heap.size rest p2).iterPos w.heap.size < rest.size - wr.iterPos w.heap.size by
    simp only [World.iterPos,HITn.out,HIT.out];omega)
   have HX2:=Aside0.mk (show hexO ok (if hexN c < 0 then none else if high < 0 then hexL rest f p2 out (hexN c) else hexL rest f p2 (out++[(16 * high + hexN c) % 256]) (-1))=(r1,r2) by
    rw [← HX.out,hexL.eq_2,if_pos hp,hc,hp2])
   clear HX HO HIT HBr hp2'
   by_cases h1:(c:Int) < 128
   ·have d1:decide ((c:Int) < 128)=true:=decide_eq_true h1
    have HN:=Aside0.mk (show Lib.indexByte (⟨#[48,49,50,51,52,53,54,55,56,57,97,98,99,100,101,102]⟩:ByteArray).data.toList ((c:Int) % 256).toNat.toUInt8=hexN c from (if_pos h1).symm)
    clear hp hc hp2 h1
    go_wp2_with fail
    refine (Tryz.strings_IndexByte _ _ _).mono ?_
    rintro e w2 ⟨rfl,hw2⟩
    obtain rfl:=hw2.symm
    rw [HN.out]
    have hb:=hexN_le c
    generalize hexN c=n at HX2 hb ⊢
    clear HN
    have hw3:wrap32 n=n:=by unfold wrap32;omega
    by_cases hn:n < 0
    ·have dn:decide (n < 0)=true:=decide_eq_true hn
     have HR:=Aside0.mk (show ([],false)=(r1,r2) by rw [← HX2.out,if_pos hn];rfl)
     clear hb hn
     go_wp2
     go_ret2
     injection HR.out with hr1 hr2
     exact ⟨_,by rw [← hr2];rfl,by rw [← hr1];exact Kd.R_nil _ _ _ _ _,HBn.out⟩
    ·have dn:decide (n < 0)=false:=decide_eq_false hn
     by_cases hh:high < 0
     ·have dh:decide (high < 0)=true:=decide_eq_true hh
      have HX3:=Aside0.mk (show hexO ok (hexL rest f p2 out n)=(r1,r2) by rw [← HX2.out,if_neg hn,if_pos hh])
      have HNN:=Aside0.mk hb
      clear hb hn hh
      go_wp2
      go_roundw
      case measure => exact HM.out
      case rel =>
       exact ⟨out,n,p2,f,by rw [hw3],HOn,HITn,HBn,HNN,⟨by have:=HL.out.1;have:=HL.out.2;have:=HP2.out;omega⟩,HX3⟩
     ·have dh:decide (high < 0)=false:=decide_eq_false hh
      have HX3:=Aside0.mk (show hexO ok (hexL rest f p2 (out++[(16 * high + n) % 256]) (-1))=(r1,r2) by rw [← HX2.out,if_neg hn,if_neg hh])
      have hor:=or_hex (h:=high) (n:=n) (by omega) HH.out.2 (by omega) hb.2
      rw [← hor] at HX3
      have hlt:=blk_lt HITn.out
      have HLT:=Aside0.mk hlt
      have HLL:=Aside0.mk (show (out.length + 1) * 1≤140737488355328 by have:=HL.out.1;have:=HP.out;have:=HRS.out;omega)
      clear hb hn hh hor hlt
      go_wp2_with (first|((with_reducible refine gate_builtin (b:=.append) (xs:=#[.tmp 27,.tmp 33]) rfl ?_);at_builtin;refine Kd.R_append (Kd.int .u8) (w0:=wr.iterAt w.heap.size rest p2) (w.heap.size + 1) rfl (.tmp 27) (.tmp 33) 45 5 (.int .u8 0) 1 rfl hu hex_info rfl (by decide) (by decide) u6 out (Go.bits .or .i32 (wrap32 (high * 16)) n % 256) [.int .u8 (Go.bits .or .i32 (wrap32 (high * 16)) n % 256)] (fun k => w.heap.size < k) (fun _ => False) rfl rfl ?aP (fun _ hk => hk.elim) ?aF HOn.out (Below.refl _ _) HLT.out HLL.out ?_;(case aP => exact rfl);(case aF => exact (fun k hk => by have:=HLT.out;omega));intro v1 w1 ho hb hg hat;have HO1:=Aside0.mk ho;have HB1:=Aside0.mk (HBn.out.trans (hb.mono (Nat.le_succ _)));have HIT1:=Aside0.mk ((hb.block w.heap.size (Nat.lt_succ_self _)).trans HITn.out);clear ho hb hg hat))
      go_roundw
      case measure => 
       have:=HM.out
       simp only [World.iterPos,HIT1.out,HITn.out] at this ⊢
       exact this
      case rel =>
       exact ⟨_,-1,p2,f,rfl,HO1,HIT1,HB1,⟨by omega⟩,⟨by rw [List.length_append];have:=HL.out.1;have:=HL.out.2;have:=HP2.out;simp only [List.length_cons,List.length_nil];omega⟩,HX3⟩
   ·have d1:decide ((c:Int) < 128)=false:=decide_eq_false h1
    have HR:=Aside0.mk (show ([],false)=(r1,r2) by rw [← HX2.out,show hexN c=-1 from if_neg h1];rfl)
    clear hp hc hp2 h1
    go_wp2
    go_ret2
    injection HR.out with hr1 hr2
    exact ⟨_,by rw [← hr2];rfl,by rw [← hr1];exact Kd.R_nil _ _ _ _ _,HBn.out⟩
  ·have hnx:=fun ty => Lib.run_next_end_at (P:=Tryz.prog) wr w.heap.size rest pos ty HIT.out hp
   have hr:(out,ok && decide (high < 0))=(r1,r2):=by
    rw [← HX.out]
    cases fuel with
    | zero => rfl
    | succ k => unfold hexL;rw [if_neg hp];rfl
   injection hr with hr1 hr2
   have HR2:=Aside0.mk hr2
   have HOO:=Aside0.mk (Kd.R_lower (Kd.R_mono HO.out (fun _ _ => trivial)) (Nat.le_succ w.heap.size))
   clear hr2 HO HX HIT
   cases ok
   ·go_wp2
    go_ret2
    exact ⟨_,by rw [← HR2.out];rfl,by rw [← hr1];exact HOO.out,HBr.out⟩
   ·by_cases hh:high < 0
    ·have dh:decide (high < 0)=true:=decide_eq_true hh
     go_wp2
     go_ret2
     exact ⟨_,by rw [← HR2.out,dh];rfl,by rw [← hr1];exact HOO.out,HBr.out⟩
    ·have dh:decide (high < 0)=false:=decide_eq_false hh
     go_wp2
     go_ret2
     exact ⟨_,by rw [← HR2.out,dh];rfl,by rw [← hr1];exact HOO.out,HBr.out⟩
end Go.Proofs.YtpofikjkccljlaaGreatDoor.Px
namespace Go.Proofs.YtpofikjkccljlaaGreatDoor.Px
open Go.RowKit Go.Proofs.YtpofikjkccljlaaGreatDoorW.PrintWords Go.Proofs.YtpofikjkccljlaaGreatDoorW.PrintLast Go.Proofs.YtpofikjkccljlaaGreatDoorW.PrintMore
attribute [local go_sem] max2_int min2_int max_two min_two max_three min_three max_four min_four
set_option linter.unusedVariables false
set_option linter.unusedSimpArgs false
mutual
def script_Line.j0:Nat→List ByteArray→Bool→Option (ByteArray × List Int × List Int × Int)
 | 0,_,_ => none
 | k + 1,x6,x26 => if x26=true then (if 1 < (x6.length:Int) then ((script_hex.f (rdOf ByteArray.empty x6 1)).bind fun bt106 => (if bt106.2=true then (if 0 < (x6.length:Int) then (some (rdOf ByteArray.empty x6 0,bt106.1,([]:List Int),0)) else (none)) else (some ((⟨#[]⟩:ByteArray),([]:List Int),([]:List Int),4)))) else (none)) else (if 0 < (x6.length:Int) then ((script_kind.f (rdOf ByteArray.empty x6 0)).bind fun t112 => (if t112 ≥ 0 then ((script_many.f t112).bind fun t113 => (script_Line.j1 k x6 t112 t113)) else (script_Line.j1 k x6 t112 1))) else (none))
def script_Line.j1:Nat→List ByteArray→Int→Int→Option (ByteArray × List Int × List Int × Int)
 | 0,_,_,_ => none
 | k + 1,x6,x9,x10 => if x9 < 0 then (if 0 < (x6.length:Int) then (if (rdOf ByteArray.empty x6 0).toList=([109,97,99,104,105,110,101,115]:List UInt8) then (script_Line.j2 k x6 ((x6.length:Int) != (wrap64 (x10 + 1)))) else (script_Line.j2 k x6 true)) else (none)) else (script_Line.j2 k x6 ((x6.length:Int) != (wrap64 (x10 + 1))))
def script_Line.j2:Nat→List ByteArray→Bool→Option (ByteArray × List Int × List Int × Int)
 | 0,_,_ => none
 | k + 1,x6,x61 => if x61=true then (some ((⟨#[]⟩:ByteArray),([]:List Int),([]:List Int),4)) else (if 1≤(x6.length:Int) then ((some (x6.drop 1:List ByteArray)).bind fun y115 => (script_Line.l0 k x6 ([]:List Int) y115 (y115.length:Int) 0)) else (none))
def script_Line.l0:Nat→List ByteArray→List Int→List ByteArray→Int→Int→Option (ByteArray × List Int × List Int × Int)
 | 0,_,_,_,_,_ => none
 | k + 1,x6,x11,x63,x64,x65 => if x65 < x64 then (if 0≤x65 then (if x65 < (x63.length:Int) then ((script_number.f (rdOf ByteArray.empty x63 x65)).bind fun bt120 => (if bt120.2=true then (if x11.length < 17592186044416 then (script_Line.l0 k x6 (x11++[bt120.1]) x63 x64 (wrap64 (x65 + 1))) else (none)) else (some ((⟨#[]⟩:ByteArray),([]:List Int),([]:List Int),4)))) else (none)) else (none)) else (if 0 < (x6.length:Int) then (some (rdOf ByteArray.empty x6 0,([]:List Int),x11,0)) else (none))
end
def script_Line.f (k:Nat) (a0:ByteArray):Option (ByteArray × List Int × List Int × Int):=(strings_Split.f a0 (⟨#[32]⟩:ByteArray)).bind fun t101 => (if 0 < (t101.length:Int) then (if (rdOf ByteArray.empty t101 0).toList=([102,105,108,101]:List UInt8) then (script_Line.j0 k t101 ((t101.length:Int)==2)) else (script_Line.j0 k t101 false)) else (none))
theorem script_Line.mono_l:∀ k,(∀ y0 y1,LeO (script_Line.j0 k y0 y1) (script_Line.j0 (k + 1) y0 y1))∧(∀ y0 y1 y2,LeO (script_Line.j1 k y0 y1 y2) (script_Line.j1 (k + 1) y0 y1 y2))∧(∀ y0 y1,LeO (script_Line.j2 k y0 y1) (script_Line.j2 (k + 1) y0 y1))∧(∀ y0 y1 y2 y3 y4,LeO (script_Line.l0 k y0 y1 y2 y3 y4) (script_Line.l0 (k + 1) y0 y1 y2 y3 y4))
 | 0 => ⟨fun _ _ r h => by simp [script_Line.j0] at h,fun _ _ _ r h => by simp [script_Line.j1] at h,fun _ _ r h => by simp [script_Line.j2] at h,fun _ _ _ _ _ r h => by simp [script_Line.l0] at h⟩
 | k + 1 => by
  obtain ⟨ih0,ih1,ih2,ih3⟩:=script_Line.mono_l k
  refine ⟨?_,?_,?_,?_⟩
  ·intro y0 y1
   unfold script_Line.j0
   repeat' first
   | (with_reducible exact ih0 _ _)
   | (with_reducible exact ih1 _ _ _)
   | (with_reducible exact ih2 _ _)
   | (with_reducible exact ih3 _ _ _ _ _)
   | (with_reducible exact LeO.refl _)
   | (with_reducible exact LeO.none _)
   | (with_reducible refine LeO.ite ?_ ?_)
   | (with_reducible refine LeO.bind ?_ (fun _ => ?_))
   | exact ih0 _ _
   | exact ih1 _ _ _
   | exact ih2 _ _
   | exact ih3 _ _ _ _ _
   | exact LeO.none _
   | refine LeO.ite ?_ ?_
   | refine LeO.bind ?_ (fun _ => ?_)
  ·intro y0 y1 y2
   unfold script_Line.j1
   repeat' first
   | (with_reducible exact ih0 _ _)
   | (with_reducible exact ih1 _ _ _)
   | (with_reducible exact ih2 _ _)
   | (with_reducible exact ih3 _ _ _ _ _)
   | (with_reducible exact LeO.refl _)
   | (with_reducible exact LeO.none _)
   | (with_reducible refine LeO.ite ?_ ?_)
   | (with_reducible refine LeO.bind ?_ (fun _ => ?_))
   | exact ih0 _ _
   | exact ih1 _ _ _
   | exact ih2 _ _
   | exact ih3 _ _ _ _ _
   | exact LeO.none _
   | refine LeO.ite ?_ ?_
   | refine LeO.bind ?_ (fun _ => ?_)
  ·intro y0 y1
   unfold script_Line.j2
   repeat' first
   | (with_reducible exact ih0 _ _)
   | (with_reducible exact ih1 _ _ _)
   | (with_reducible exact ih2 _ _)
   | (with_reducible exact ih3 _ _ _ _ _)
   | (with_reducible exact LeO.refl _)
   | (with_reducible exact LeO.none _)
   | (with_reducible refine LeO.ite ?_ ?_)
   | (with_reducible refine LeO.bind ?_ (fun _ => ?_))
   | exact ih0 _ _
   | exact ih1 _ _ _
   | exact ih2 _ _
   | exact ih3 _ _ _ _ _
   | exact LeO.none _
   | refine LeO.ite ?_ ?_
   | refine LeO.bind ?_ (fun _ => ?_)
  ·intro y0 y1 y2 y3 y4
   unfold script_Line.l0
   repeat' first
   | (with_reducible exact ih0 _ _)
   | (with_reducible exact ih1 _ _ _)
   | (with_reducible exact ih2 _ _)
   | (with_reducible exact ih3 _ _ _ _ _)
   | (with_reducible exact LeO.refl _)
   | (with_reducible exact LeO.none _)
   | (with_reducible refine LeO.ite ?_ ?_)
   | (with_reducible refine LeO.bind ?_ (fun _ => ?_))
   | exact ih0 _ _
   | exact ih1 _ _ _
   | exact ih2 _ _
   | exact ih3 _ _ _ _ _
   | exact LeO.none _
   | refine LeO.ite ?_ ?_
   | refine LeO.bind ?_ (fun _ => ?_)
theorem script_Line.mono:∀ a0 k,LeO (script_Line.f k a0) (script_Line.f (k + 1) a0):=by
 intro a0 k
 obtain ⟨ih0,ih1,ih2,ih3⟩:=script_Line.mono_l k
 unfold script_Line.f
 repeat' first
   | (with_reducible exact ih0 _ _)
   | (with_reducible exact ih1 _ _ _)
   | (with_reducible exact ih2 _ _)
   | (with_reducible exact ih3 _ _ _ _ _)
   | (with_reducible exact LeO.refl _)
   | (with_reducible exact LeO.none _)
   | (with_reducible refine LeO.ite ?_ ?_)
   | (with_reducible refine LeO.bind ?_ (fun _ => ?_))
   | exact ih0 _ _
   | exact ih1 _ _ _
   | exact ih2 _ _
   | exact ih3 _ _ _ _ _
   | exact LeO.none _
   | refine LeO.ite ?_ ?_
   | refine LeO.bind ?_ (fun _ => ?_)
set_option maxHeartbeats 80000000 in
set_option maxRecDepth 100000 in
theorem script_Line.calls (k:Nat) (a0:ByteArray) (r1:ByteArray) (r2:List Int) (r3:List Int) (r4:Int) (w:World) (hG:Aside0 (GG w)) (h:script_Line.f k a0=some (r1,r2,r3,r4)) :
  Calls Tryz.prog 15 #[.string a0] w fun e w' => ∃ v1_ v2_:Value,e=.returned (.tuple #[.string r1,v1_,v2_,.int .i64 r4])∧Kd.R (Kd.int .u8) 5 w' w.heap.size (fun _ => True) v1_ r2∧Kd.R (Kd.int .i64) 2 w' w.heap.size (fun _ => True) v2_ r3∧Below w.heap.size w w':=by
 have HB:=Aside0.mk (Below.refl w.heap.size w)
 have H:((strings_Split.f a0 (⟨#[32]⟩:ByteArray)).bind fun t101 => (if 0 < (t101.length:Int) then (if (rdOf ByteArray.empty t101 0).toList=([102,105,108,101]:List UInt8) then (script_Line.j0 k t101 ((t101.length:Int)==2)) else (script_Line.j0 k t101 false)) else (none)))=some (r1,r2,r3,r4):=h
 clear h
 replace H:=Option.bind_eq_some_iff.mp H
 obtain ⟨t101,A20,H⟩:=H
 replace H:(if 0 < (t101.length:Int) then (if (rdOf ByteArray.empty t101 0).toList=([102,105,108,101]:List UInt8) then (script_Line.j0 k t101 ((t101.length:Int)==2)) else (script_Line.j0 k t101 false)) else (none))=some (r1,r2,r3,r4):=H
 have A2:=Aside0.mk A20
 clear A20
 have HC3:=Aside0.mk H
 clear H
 go_enter Tryz.func15,Tryz.ntmps15
 go_upto_region 2 with (first|((with_reducible refine gate_callee (f:=14) rfl ?_);refine goesL_ (some 17) rfl rfl Tryz.func14 (by kernel_rfl) rfl #[.string a0,.string (⟨#[32]⟩:ByteArray)] rfl (by (try simp only [List.map_toArray,List.map_cons,List.map_nil]);first|done|rfl|(simp only [List.length_drop,List.length_take];rfl)) ?_;(with_reducible refine (strings_Split.calls a0 (⟨#[32]⟩:ByteArray) t101 _ ?side1 A2.out).mono ?_);(case side1 => exact ⟨GG.below hG.out (by repeat (first|(with_reducible first|exact HB.out|apply below_alloc|apply pw_below_drewN|apply below_drew1)|exact HB.out))⟩);rintro e w4 ⟨v102,rfl,ho0,hb⟩;refine ⟨_,rfl,?_⟩;have n0_:=Aside0.mk (Kd.R_lower ho0 (below_size (by repeat (first|(with_reducible first|exact HB.out|apply below_alloc|apply pw_below_drewN|apply below_drew1)|exact HB.out))));have n1_:=Aside0.mk (below_step (by repeat (first|(with_reducible first|exact HB.out|apply below_alloc|apply pw_below_drewN|apply below_drew1)|exact HB.out)) hb);clear HB;have HO103:=n0_;have HB:=n1_;clear n0_ n1_;(try clear hb);(try clear hb2);(try clear hk);(try clear hi);(try clear ho0)))
 (try simp only [Act.put,List.setIfInBounds_toArray,List.set_cons_zero,List.set_cons_succ])
 go_cut [26] (fun v26 wc => ∃ (kq:Nat) (x26_2:Bool),v26=.bool x26_2∧Aside0 (script_Line.j0 kq t101 x26_2=some (r1,r2,r3,r4))∧Aside0 (kq≤k)∧Aside0 (Kd.R Kd.string 9 wc w.heap.size (fun _ => True) v102 t101)∧Aside0 (Below w.heap.size w wc))
 case first =>
  have H:=HC3.out
  clear HC3
  by_cases c5:0 < (t101.length:Int)
  ·rw [if_pos c5] at H
   have c5b0:decide (0 < (t101.length:Int))=true:=decide_eq_true c5
   have c5b1:decide (0 < t101.length)=true:=decide_eq_true (by omega)
   clear c5
   (first|rw [c5b0]|(simp only [i64_w,i32_w];rw [c5b0])|skip)
   by_cases c6:(rdOf ByteArray.empty t101 0).toList=([102,105,108,101]:List UInt8)
   ·rw [if_pos c6] at H
    have c6b0:((rdOf ByteArray.empty t101 0).toList==([102,105,108,101]:List UInt8))=true:=beq_iff_eq.mpr c6
    have c6b1:((rdOf ByteArray.empty t101 0).toList != ([102,105,108,101]:List UInt8))=false:=bne_eq_false_iff_eq.mpr c6
    clear c6
    have H':=Aside0.mk H
    clear H
    obtain ⟨Ao7,co7,eo7⟩:=Kd.R_slice HO103.out
    subst eo7
    have p104:0≤(0:Int):=(by omega)
    have q104:0 < (t101.length:Int):=of_decide_eq_true (by first|(with_reducible assumption)|assumption)
    obtain ⟨ad104,e104,hx104_0⟩:=Kd.at_string (Kd.R_reads' HO103.out).2.2 0 p104 q104
    cases e104
    have qi104:(0 < t101.length)=True:=eq_true (by omega)
    (try rw [show ((0:Int)).toNat=0 from rfl] at hx104_0)
    (try rw [Addr.add_zero'] at hx104_0)
    replace p104:=eq_true p104
    replace q104:=eq_true q104
    go_wp2
    go_meet
    case rel => exact ⟨_,(((t101.length:Int)==2)),(by first|rfl|(simp;done)|(simp [*];done)),H',⟨by first|omega|exact Nat.le_refl _⟩,⟨by (with_reducible repeat (first|apply Kd.R_alloc|apply Kd.R_drewN|apply Kd.R_drew));exact HO103.out⟩,⟨by repeat (first|(with_reducible first|exact HB.out|apply below_alloc|apply pw_below_drewN|apply below_drew1)|exact HB.out)⟩⟩
   ·rw [if_neg c6] at H
    have c6b0:((rdOf ByteArray.empty t101 0).toList==([102,105,108,101]:List UInt8))=false:=beq_eq_false_iff_ne.mpr c6
    have c6b1:((rdOf ByteArray.empty t101 0).toList != ([102,105,108,101]:List UInt8))=true:=bne_iff_ne.mpr c6
    have H':=Aside0.mk H
    clear H
    obtain ⟨Ao8,co8,eo8⟩:=Kd.R_slice HO103.out
    subst eo8
    have p104:0≤(0:Int):=(by omega)
    have q104:0 < (t101.length:Int):=of_decide_eq_true (by first|(with_reducible assumption)|assumption)
    obtain ⟨ad104,e104,hx104_0⟩:=Kd.at_string (Kd.R_reads' HO103.out).2.2 0 p104 q104
    cases e104
    have qi104:(0 < t101.length)=True:=eq_true (by omega)
    (try rw [show ((0:Int)).toNat=0 from rfl] at hx104_0)
    (try rw [Addr.add_zero'] at hx104_0)
    replace p104:=eq_true p104
    replace q104:=eq_true q104
    go_wp2
    go_meet
    case rel => exact ⟨_,(false),(by first|rfl|(simp;done)|(simp [*];done)),H',⟨by first|omega|exact Nat.le_refl _⟩,⟨by (with_reducible repeat (first|apply Kd.R_alloc|apply Kd.R_drewN|apply Kd.R_drew));exact HO103.out⟩,⟨by repeat (first|(with_reducible first|exact HB.out|apply below_alloc|apply pw_below_drewN|apply below_drew1)|exact HB.out)⟩⟩
  ·rw [if_neg c5] at H
   exact absurd H (by simp)
 case rest =>
  clear HC3
  try clear c1;try clear p1;try clear q1;try clear hx1;try clear qi1;try clear p2;try clear c5;try clear c5b0;try clear c5b1;try clear c6;try clear c6b0;try clear c6b1;try clear hx104_0;try clear p104;try clear q104
  obtain ⟨kq,x26_2,rfl,HA,HJ2,HO_6,HB⟩:=hcut
  cases kq with
  | zero => exact absurd HA.out (by simp [script_Line.j0])
  | succ kj2 =>
   have H:=HA.out
   clear HA
   simp only [script_Line.j0] at H
   by_cases c9:x26_2=true
   ·subst c9
    have H1:(if 1 < (t101.length:Int) then ((script_hex.f (rdOf ByteArray.empty t101 1)).bind fun bt106 => (if bt106.2=true then (if 0 < (t101.length:Int) then (some (rdOf ByteArray.empty t101 0,bt106.1,([]:List Int),0)) else (none)) else (some ((⟨#[]⟩:ByteArray),([]:List Int),([]:List Int),4)))) else (none))=some (r1,r2,r3,r4):=by rw [if_pos rfl] at H;exact H
    clear H
    have H:=H1
    clear H1
    by_cases c10:1 < (t101.length:Int)
    ·rw [if_pos c10] at H
     have c10b0:decide (1 < (t101.length:Int))=true:=decide_eq_true c10
     have c10b1:decide (1 < t101.length)=true:=decide_eq_true (by omega)
     clear c10
     replace H:=Option.bind_eq_some_iff.mp H
     obtain ⟨⟨t106,t107⟩,A110,H⟩:=H
     replace H:(if t107=true then (if 0 < (t101.length:Int) then (some (rdOf ByteArray.empty t101 0,t106,([]:List Int),0)) else (none)) else (some ((⟨#[]⟩:ByteArray),([]:List Int),([]:List Int),4)))=some (r1,r2,r3,r4):=H
     have A11:=Aside0.mk A110
     clear A110
     by_cases c12:t107=true
     ·subst c12
      have H1:(if 0 < (t101.length:Int) then (some (rdOf ByteArray.empty t101 0,t106,([]:List Int),0)) else (none))=some (r1,r2,r3,r4):=by rw [if_pos rfl] at H;exact H
      clear H
      have H:=H1
      clear H1
      by_cases c13:0 < (t101.length:Int)
      ·rw [if_pos c13] at H
       have c13b0:decide (0 < (t101.length:Int))=true:=decide_eq_true c13
       have c13b1:decide (0 < t101.length)=true:=decide_eq_true (by omega)
       clear c13
       simp only [Option.some.injEq,Prod.mk.injEq] at H
       obtain ⟨rfl,rfl,rfl,rfl⟩:=H
       obtain ⟨Ao14,co14,eo14⟩:=Kd.R_slice HO_6.out
       subst eo14
       have p105:0≤(1:Int):=(by omega)
       have q105:1 < (t101.length:Int):=of_decide_eq_true (by first|(with_reducible assumption)|assumption)
       obtain ⟨ad105,e105,hx105_0⟩:=Kd.at_string (Kd.R_reads' HO_6.out).2.2 1 p105 q105
       cases e105
       (try simp only [show (1:Int).toNat=1 from rfl,Nat.reduceMul,Nat.reduceEqDiff,Go.Addr.add,↓reduceIte] at hx105_0)
       have qi105:(1 < t101.length)=True:=eq_true (by omega)
       (try rw [show ((1:Int)).toNat=1 from rfl] at hx105_0)
       replace p105:=eq_true p105
       replace q105:=eq_true q105
       go_wp2_with (first|((with_reducible refine gate_callee (f:=31) rfl ?_);refine goesL_ (some 31) rfl rfl Tryz.func31 (by kernel_rfl) rfl #[.string (rdOf ByteArray.empty t101 1)] rfl (by (try simp only [List.map_toArray,List.map_cons,List.map_nil]);first|done|rfl|(simp only [List.length_drop,List.length_take];rfl)) ?_;(with_reducible refine (script_hex.calls (rdOf ByteArray.empty t101 1) t106 true _ A11.out).mono ?_);rintro e w15 ⟨v108,rfl,ho0,hb⟩;refine ⟨_,rfl,?_⟩;have n0_:=Aside0.mk (Kd.R_below (by (with_reducible repeat (first|apply Kd.R_alloc|apply Kd.R_drewN|apply Kd.R_drew));exact HO_6.out) hb);have n1_:=Aside0.mk (Kd.R_lower ho0 (below_size (by repeat (first|(with_reducible first|exact HB.out|apply below_alloc|apply pw_below_drewN|apply below_drew1)|exact HB.out))));have n2_:=Aside0.mk (below_step (by repeat (first|(with_reducible first|exact HB.out|apply below_alloc|apply pw_below_drewN|apply below_drew1)|exact HB.out)) hb);clear HO_6;clear HB;have HO_6:=n0_;have HO109:=n1_;have HB:=n2_;clear n0_ n1_ n2_;(try clear hb);(try clear hb2);(try clear hk);(try clear hi);(try clear ho0);have p110:0≤(0:Int):=(by omega);have q110:0 < (t101.length:Int):=of_decide_eq_true (by first|(with_reducible assumption)|assumption);obtain ⟨ad110,e110,hx110_0⟩:=Kd.at_string (Kd.R_reads' HO_6.out).2.2 0 p110 q110;obtain rfl:ad105=ad110:=(by injection e110);have qi110:(0 < t101.length)=True:=eq_true (by omega);(try rw [show ((0:Int)).toNat=0 from rfl] at hx110_0);(try rw [Addr.add_zero'] at hx110_0);replace p110:=eq_true p110;replace q110:=eq_true q110))
       refine bodyPost_ret (results_list (rs:=[.tmp 2,.tmp 3,.tmp 4,.tmp 5]) rfl (by simp) (.tmp (.tmp (.tmp (.tmp .nil))))) rfl ?_
       exact ⟨_,_,by first|rfl|(simp [errW_none,errW_some] <;> rfl)|(simp [*,errW_none,errW_some] <;> rfl),by (with_reducible repeat (first|apply Kd.R_alloc|apply Kd.R_drewN|apply Kd.R_drew));exact HO109.out,by first|exact Kd.R_nil _ _ _ _ _|exact Kd.N_nil _ _ _ _ _|exact Kd.V_nil _ _ _ _ _|exact Kd.Q_nil _ _ _ _ _|exact Kd.S_nil _ _ _ _ _,by repeat (first|(with_reducible first|exact HB.out|apply below_alloc|apply pw_below_drewN|apply below_drew1)|exact HB.out)⟩
      ·rw [if_neg c13] at H
       exact absurd H (by simp)
     ·replace c12:=Bool.eq_false_iff.mpr c12
      subst c12
      have H1:(some ((⟨#[]⟩:ByteArray),([]:List Int),([]:List Int),4))=some (r1,r2,r3,r4):=by rw [if_neg (show ¬ (false=true) by decide)] at H;exact H
      clear H
      have H:=H1
      clear H1
      simp only [Option.some.injEq,Prod.mk.injEq] at H
      obtain ⟨rfl,rfl,rfl,rfl⟩:=H
      obtain ⟨Ao16,co16,eo16⟩:=Kd.R_slice HO_6.out
      subst eo16
      have p105:0≤(1:Int):=(by omega)
      have q105:1 < (t101.length:Int):=of_decide_eq_true (by first|(with_reducible assumption)|assumption)
      obtain ⟨ad105,e105,hx105_0⟩:=Kd.at_string (Kd.R_reads' HO_6.out).2.2 1 p105 q105
      cases e105
      (try simp only [show (1:Int).toNat=1 from rfl,Nat.reduceMul,Nat.reduceEqDiff,Go.Addr.add,↓reduceIte] at hx105_0)
      have qi105:(1 < t101.length)=True:=eq_true (by omega)
      (try rw [show ((1:Int)).toNat=1 from rfl] at hx105_0)
      replace p105:=eq_true p105
      replace q105:=eq_true q105
      go_wp2_with (first|((with_reducible refine gate_callee (f:=31) rfl ?_);refine goesL_ (some 31) rfl rfl Tryz.func31 (by kernel_rfl) rfl #[.string (rdOf ByteArray.empty t101 1)] rfl (by (try simp only [List.map_toArray,List.map_cons,List.map_nil]);first|done|rfl|(simp only [List.length_drop,List.length_take];rfl)) ?_;(with_reducible refine (script_hex.calls (rdOf ByteArray.empty t101 1) t106 false _ A11.out).mono ?_);rintro e w17 ⟨v108,rfl,ho0,hb⟩;refine ⟨_,rfl,?_⟩;have n0_:=Aside0.mk (Kd.R_below (by (with_reducible repeat (first|apply Kd.R_alloc|apply Kd.R_drewN|apply Kd.R_drew));exact HO_6.out) hb);have n1_:=Aside0.mk (Kd.R_lower ho0 (below_size (by repeat (first|(with_reducible first|exact HB.out|apply below_alloc|apply pw_below_drewN|apply below_drew1)|exact HB.out))));have n2_:=Aside0.mk (below_step (by repeat (first|(with_reducible first|exact HB.out|apply below_alloc|apply pw_below_drewN|apply below_drew1)|exact HB.out)) hb);clear HO_6;clear HB;have HO_6:=n0_;have HO109:=n1_;have HB:=n2_;clear n0_ n1_ n2_;(try clear hb);(try clear hb2);(try clear hk);(try clear hi);(try clear ho0)))
      refine bodyPost_ret (results_list (rs:=[.tmp 2,.tmp 3,.tmp 4,.tmp 5]) rfl (by simp) (.tmp (.tmp (.tmp (.tmp .nil))))) rfl ?_
      exact ⟨_,_,by first|rfl|(simp [errW_none,errW_some] <;> rfl)|(simp [*,errW_none,errW_some] <;> rfl),by first|exact Kd.R_nil _ _ _ _ _|exact Kd.N_nil _ _ _ _ _|exact Kd.V_nil _ _ _ _ _|exact Kd.Q_nil _ _ _ _ _|exact Kd.S_nil _ _ _ _ _,by first|exact Kd.R_nil _ _ _ _ _|exact Kd.N_nil _ _ _ _ _|exact Kd.V_nil _ _ _ _ _|exact Kd.Q_nil _ _ _ _ _|exact Kd.S_nil _ _ _ _ _,by repeat (first|(with_reducible first|exact HB.out|apply below_alloc|apply pw_below_drewN|apply below_drew1)|exact HB.out)⟩
    ·rw [if_neg c10] at H
     exact absurd H (by simp)
   ·replace c9:=Bool.eq_false_iff.mpr c9
    subst c9
    have H1:(if 0 < (t101.length:Int) then ((script_kind.f (rdOf ByteArray.empty t101 0)).bind fun t112 => (if t112 ≥ 0 then ((script_many.f t112).bind fun t113 => (script_Line.j1 kj2 t101 t112 t113)) else (script_Line.j1 kj2 t101 t112 1))) else (none))=some (r1,r2,r3,r4):=by rw [if_neg (show ¬ (false=true) by decide)] at H;exact H
    clear H
    have H:=H1
    clear H1
    by_cases c18:0 < (t101.length:Int)
    ·rw [if_pos c18] at H
     have c18b0:decide (0 < (t101.length:Int))=true:=decide_eq_true c18
     have c18b1:decide (0 < t101.length)=true:=decide_eq_true (by omega)
     clear c18
     replace H:=Option.bind_eq_some_iff.mp H
     obtain ⟨t112,A190,H⟩:=H
     replace H:(if t112 ≥ 0 then ((script_many.f t112).bind fun t113 => (script_Line.j1 kj2 t101 t112 t113)) else (script_Line.j1 kj2 t101 t112 1))=some (r1,r2,r3,r4):=H
     have A19:=Aside0.mk A190
     clear A190
     have HC20:=Aside0.mk H
     clear H
     obtain ⟨Ao21,co21,eo21⟩:=Kd.R_slice HO_6.out
     subst eo21
     have p111:0≤(0:Int):=(by omega)
     have q111:0 < (t101.length:Int):=of_decide_eq_true (by first|(with_reducible assumption)|assumption)
     obtain ⟨ad111,e111,hx111_0⟩:=Kd.at_string (Kd.R_reads' HO_6.out).2.2 0 p111 q111
     cases e111
     have qi111:(0 < t101.length)=True:=eq_true (by omega)
     (try rw [show ((0:Int)).toNat=0 from rfl] at hx111_0)
     (try rw [Addr.add_zero'] at hx111_0)
     replace p111:=eq_true p111
     replace q111:=eq_true q111
     go_upto_if 44 with (first|((with_reducible refine gate_callee (f:=32) rfl ?_);refine goesL_ (some 42) rfl rfl Tryz.func32 (by kernel_rfl) rfl #[.string (rdOf ByteArray.empty t101 0)] rfl (by (try simp only [List.map_toArray,List.map_cons,List.map_nil]);first|done|rfl|(simp only [List.length_drop,List.length_take];rfl)) ?_;(with_reducible refine (script_kind.calls (rdOf ByteArray.empty t101 0) t112 _ A19.out).mono ?_);rintro e w22 ⟨rfl,hb⟩;refine ⟨_,rfl,?_⟩;have n0_:=Aside0.mk (Kd.R_below (by (with_reducible repeat (first|apply Kd.R_alloc|apply Kd.R_drewN|apply Kd.R_drew));exact HO_6.out) hb);have n1_:=Aside0.mk (below_step (by repeat (first|(with_reducible first|exact HB.out|apply below_alloc|apply pw_below_drewN|apply below_drew1)|exact HB.out)) hb);clear HO_6;clear HB;have HO_6:=n0_;have HB:=n1_;clear n0_ n1_;(try clear hb);(try clear hb2);(try clear hk);(try clear hi)))
     (try simp only [Act.put,List.setIfInBounds_toArray,List.set_cons_zero,List.set_cons_succ])
     go_cut [10] (fun v10 wc => ∃ (kq:Nat) (x10_19:Int),v10=.int .i64 x10_19∧Aside0 (script_Line.j1 kq t101 t112 x10_19=some (r1,r2,r3,r4))∧Aside0 (kq≤kj2)∧Aside0 (Kd.R Kd.string 9 wc w.heap.size (fun _ => True) (.slice (some ad111) t101.length co21) t101)∧Aside0 (Below w.heap.size w wc))
     case first =>
      have H:=HC20.out
      clear HC20
      by_cases c23:t112 ≥ 0
      ·rw [if_pos c23] at H
       have c23b0:decide (0≤t112)=true:=decide_eq_true c23
       clear c23
       (first|rw [c23b0]|(simp only [i64_w,i32_w];rw [c23b0])|skip)
       replace H:=Option.bind_eq_some_iff.mp H
       obtain ⟨t113,A240,H⟩:=H
       replace H:(script_Line.j1 kj2 t101 t112 t113)=some (r1,r2,r3,r4):=H
       have A24:=Aside0.mk A240
       clear A240
       have H':=Aside0.mk H
       clear H
       go_wp2_with (first|((with_reducible refine gate_callee (f:=26) rfl ?_);refine goesL_ (some 46) rfl rfl Tryz.func26 (by kernel_rfl) rfl #[.int .i64 t112] rfl (by (try simp only [List.map_toArray,List.map_cons,List.map_nil]);first|done|rfl|(simp only [List.length_drop,List.length_take];rfl)) ?_;(with_reducible refine (script_many.calls t112 t113 _ A24.out).mono ?_);rintro e w' ⟨rfl,⟨nd,rfl⟩⟩;refine ⟨_,rfl,?_⟩))
       go_meet
       case rel => exact ⟨_,(t113),(by first|rfl|(simp;done)|(simp [*];done)),H',⟨by have:=HJ2.out;first|omega|exact Nat.le_refl _⟩,⟨by (with_reducible repeat (first|apply Kd.R_alloc|apply Kd.R_drewN|apply Kd.R_drew));exact HO_6.out⟩,⟨by repeat (first|(with_reducible first|exact HB.out|apply below_alloc|apply pw_below_drewN|apply below_drew1)|exact HB.out)⟩⟩
      ·rw [if_neg c23] at H
       have c23b0:decide (0≤t112)=false:=decide_eq_false c23
       clear c23
       (first|rw [c23b0]|(simp only [i64_w,i32_w];rw [c23b0])|skip)
       have H':=Aside0.mk H
       clear H
       go_wp2
       go_meet
       case rel => exact ⟨_,(1),(by first|rfl|(simp;done)|(simp [*];done)),H',⟨by have:=HJ2.out;first|omega|exact Nat.le_refl _⟩,⟨by (with_reducible repeat (first|apply Kd.R_alloc|apply Kd.R_drewN|apply Kd.R_drew));exact HO_6.out⟩,⟨by repeat (first|(with_reducible first|exact HB.out|apply below_alloc|apply pw_below_drewN|apply below_drew1)|exact HB.out)⟩⟩
     case rest =>
      clear HC20
      try clear c1;try clear p1;try clear q1;try clear hx1;try clear qi1;try clear c2;try clear p2;try clear c3;try clear c5;try clear c5b0;try clear c5b1;try clear c6;try clear c6b0;try clear c6b1;try clear c9;try clear c10;try clear c10b0;try clear c10b1;try clear p10;try clear q10;try clear hx10;try clear qi10;try clear p11;try clear q11;try clear hx11;try clear qi11;try clear c12;try clear c13;try clear c13b0;try clear c13b1;try clear c14;try clear c15;try clear c18;try clear c18b0;try clear c18b1;try clear c23;try clear c23b0;try clear hx104_0;try clear hx105_0;try clear hx110_0;try clear hx111_0;try clear p1;try clear p104;try clear p105;try clear p110;try clear p111;try clear p2;try clear q1;try clear q104;try clear q105;try clear q110;try clear q111
      obtain ⟨kq,x10_19,rfl,HA,HJ19,HO_6,HB⟩:=hcut
      cases kq with
      | zero => exact absurd HA.out (by simp [script_Line.j1])
      | succ kj19 =>
       have H:=HA.out
       clear HA
       simp only [script_Line.j1] at H
       have HC25:=Aside0.mk H
       clear H
       go_upto_region 11 with (fail)
       go_cut [61] (fun v61 wc => ∃ (kq:Nat) (x61_24:Bool),v61=.bool x61_24∧Aside0 (script_Line.j2 kq t101 x61_24=some (r1,r2,r3,r4))∧Aside0 (kq≤kj19)∧Aside0 (Kd.R Kd.string 9 wc w.heap.size (fun _ => True) (.slice (some ad111) t101.length co21) t101)∧Aside0 (Below w.heap.size w wc))
       case first =>
        have H:=HC25.out
        clear HC25
        by_cases c26:t112 < 0
        ·rw [if_pos c26] at H
         have c26b0:decide (t112 < 0)=true:=decide_eq_true c26
         clear c26
         (first|rw [c26b0]|(simp only [i64_w,i32_w];rw [c26b0])|skip)
         by_cases c27:0 < (t101.length:Int)
         ·rw [if_pos c27] at H
          have c27b0:decide (0 < (t101.length:Int))=true:=decide_eq_true c27
          have c27b1:decide (0 < t101.length)=true:=decide_eq_true (by omega)
          clear c27
          by_cases c28:(rdOf ByteArray.empty t101 0).toList=([109,97,99,104,105,110,101,115]:List UInt8)
          ·rw [if_pos c28] at H
           have c28b0:((rdOf ByteArray.empty t101 0).toList==([109,97,99,104,105,110,101,115]:List UInt8))=true:=beq_iff_eq.mpr c28
           have c28b1:((rdOf ByteArray.empty t101 0).toList != ([109,97,99,104,105,110,101,115]:List UInt8))=false:=bne_eq_false_iff_eq.mpr c28
           clear c28
           have H':=Aside0.mk H
           clear H
           have p114:0≤(0:Int):=(by omega)
           have q114:0 < (t101.length:Int):=of_decide_eq_true (by first|(with_reducible assumption)|assumption)
           obtain ⟨ad114,e114,hx114_0⟩:=Kd.at_string (Kd.R_reads' HO_6.out).2.2 0 p114 q114
           obtain rfl:ad111=ad114:=(by injection e114)
           have qi114:(0 < t101.length)=True:=eq_true (by omega)
           (try rw [show ((0:Int)).toNat=0 from rfl] at hx114_0)
           (try rw [Addr.add_zero'] at hx114_0)
           replace p114:=eq_true p114
           replace q114:=eq_true q114
           go_wp2
           go_meet
           case rel => exact ⟨_,(((t101.length:Int) != (wrap64 (x10_19 + 1)))),(by first|rfl|(simp;done)|(simp [*];done)),H',⟨by have:=HJ2.out;have:=HJ19.out;first|omega|exact Nat.le_refl _⟩,⟨by (with_reducible repeat (first|apply Kd.R_alloc|apply Kd.R_drewN|apply Kd.R_drew));exact HO_6.out⟩,⟨by repeat (first|(with_reducible first|exact HB.out|apply below_alloc|apply pw_below_drewN|apply below_drew1)|exact HB.out)⟩⟩
          ·rw [if_neg c28] at H
           have c28b0:((rdOf ByteArray.empty t101 0).toList==([109,97,99,104,105,110,101,115]:List UInt8))=false:=beq_eq_false_iff_ne.mpr c28
           have c28b1:((rdOf ByteArray.empty t101 0).toList != ([109,97,99,104,105,110,101,115]:List UInt8))=true:=bne_iff_ne.mpr c28
           have H':=Aside0.mk H
           clear H
           have p114:0≤(0:Int):=(by omega)
           have q114:0 < (t101.length:Int):=of_decide_eq_true (by first|(with_reducible assumption)|assumption)
           obtain ⟨ad114,e114,hx114_0⟩:=Kd.at_string (Kd.R_reads' HO_6.out).2.2 0 p114 q114
           obtain rfl:ad111=ad114:=(by injection e114)
           have qi114:(0 < t101.length)=True:=eq_true (by omega)
           (try rw [show ((0:Int)).toNat=0 from rfl] at hx114_0)
           (try rw [Addr.add_zero'] at hx114_0)
           replace p114:=eq_true p114
           replace q114:=eq_true q114
           go_wp2
           go_meet
           case rel => exact ⟨_,(true),(by first|rfl|(simp;done)|(simp [*];done)),H',⟨by have:=HJ2.out;have:=HJ19.out;first|omega|exact Nat.le_refl _⟩,⟨by (with_reducible repeat (first|apply Kd.R_alloc|apply Kd.R_drewN|apply Kd.R_drew));exact HO_6.out⟩,⟨by repeat (first|(with_reducible first|exact HB.out|apply below_alloc|apply pw_below_drewN|apply below_drew1)|exact HB.out)⟩⟩
         ·rw [if_neg c27] at H
          exact absurd H (by simp)
        ·rw [if_neg c26] at H
         have c26b0:decide (t112 < 0)=false:=decide_eq_false c26
         clear c26
         (first|rw [c26b0]|(simp only [i64_w,i32_w];rw [c26b0])|skip)
         have H':=Aside0.mk H
         clear H
         go_wp2
         go_meet
         case rel => exact ⟨_,(((t101.length:Int) != (wrap64 (x10_19 + 1)))),(by first|rfl|(simp;done)|(simp [*];done)),H',⟨by have:=HJ2.out;have:=HJ19.out;first|omega|exact Nat.le_refl _⟩,⟨by (with_reducible repeat (first|apply Kd.R_alloc|apply Kd.R_drewN|apply Kd.R_drew));exact HO_6.out⟩,⟨by repeat (first|(with_reducible first|exact HB.out|apply below_alloc|apply pw_below_drewN|apply below_drew1)|exact HB.out)⟩⟩
       case rest =>
        clear HC25
        try clear c1;try clear p1;try clear q1;try clear hx1;try clear qi1;try clear c2;try clear p2;try clear c3;try clear c5;try clear c5b0;try clear c5b1;try clear c6;try clear c6b0;try clear c6b1;try clear p6;try clear c9;try clear c10;try clear c10b0;try clear c10b1;try clear p10;try clear q10;try clear hx10;try clear qi10;try clear p11;try clear q11;try clear hx11;try clear qi11;try clear c12;try clear c13;try clear c13b0;try clear c13b1;try clear c14;try clear c15;try clear c18;try clear c18b0;try clear c18b1;try clear c23;try clear c23b0;try clear c26;try clear c26b0;try clear c27;try clear c27b0;try clear c27b1;try clear c28;try clear c28b0;try clear c28b1;try clear hx104_0;try clear hx105_0;try clear hx110_0;try clear hx111_0;try clear hx114_0;try clear p1;try clear p10;try clear p104;try clear p105;try clear p11;try clear p110;try clear p111;try clear p114;try clear p2;try clear q1;try clear q10;try clear q104;try clear q105;try clear q11;try clear q110;try clear q111;try clear q114
        obtain ⟨kq,x61_24,rfl,HA,HJ24,HO_6,HB⟩:=hcut
        cases kq with
        | zero => exact absurd HA.out (by simp [script_Line.j2])
        | succ kj24 =>
         have H:=HA.out
         clear HA
         simp only [script_Line.j2] at H
         by_cases c29:x61_24=true
         ·subst c29
          have H1:(some ((⟨#[]⟩:ByteArray),([]:List Int),([]:List Int),4))=some (r1,r2,r3,r4):=by rw [if_pos rfl] at H;exact H
          clear H
          have H:=H1
          clear H1
          simp only [Option.some.injEq,Prod.mk.injEq] at H
          obtain ⟨rfl,rfl,rfl,rfl⟩:=H
          go_wp2
          refine bodyPost_ret (results_list (rs:=[.tmp 2,.tmp 3,.tmp 4,.tmp 5]) rfl (by simp) (.tmp (.tmp (.tmp (.tmp .nil))))) rfl ?_
          exact ⟨_,_,by first|rfl|(simp [errW_none,errW_some] <;> rfl)|(simp [*,errW_none,errW_some] <;> rfl),by first|exact Kd.R_nil _ _ _ _ _|exact Kd.N_nil _ _ _ _ _|exact Kd.V_nil _ _ _ _ _|exact Kd.Q_nil _ _ _ _ _|exact Kd.S_nil _ _ _ _ _,by first|exact Kd.R_nil _ _ _ _ _|exact Kd.N_nil _ _ _ _ _|exact Kd.V_nil _ _ _ _ _|exact Kd.Q_nil _ _ _ _ _|exact Kd.S_nil _ _ _ _ _,by repeat (first|(with_reducible first|exact HB.out|apply below_alloc|apply pw_below_drewN|apply below_drew1)|exact HB.out)⟩
         ·replace c29:=Bool.eq_false_iff.mpr c29
          subst c29
          have H1:(if 1≤(t101.length:Int) then ((some (t101.drop 1:List ByteArray)).bind fun y115 => (script_Line.l0 kj24 t101 ([]:List Int) y115 (y115.length:Int) 0)) else (none))=some (r1,r2,r3,r4):=by rw [if_neg (show ¬ (false=true) by decide)] at H;exact H
          clear H
          have H:=H1
          clear H1
          by_cases c30:1≤(t101.length:Int)
          ·rw [if_pos c30] at H
           have c30b0:=eq_true c30
           have c30b1:decide (1≤(t101.length:Int))=true:=decide_eq_true c30
           clear c30
           obtain ⟨y115,hy115⟩:∃ y_:List ByteArray,y_=(t101.drop 1):=⟨_,rfl⟩
           replace H:(script_Line.l0 kj24 t101 ([]:List Int) y115 (y115.length:Int) 0)=some (r1,r2,r3,r4):=by first|(rw [hy115];with_reducible exact H)|(have H2_:=(Option.bind_some _ _).symm.trans H;rw [hy115];with_reducible exact H2_)|(have H2_:=(Option.bind_some _ _).symm.trans H;with_reducible exact H2_)|with_reducible exact H|(rw [hy115];exact H)|exact H
           have Ny115:=Aside0.mk hy115
           clear hy115
           have H':=Aside0.mk H
           clear H
           have q31:(1:Int)≤((t101.length:Int):Int):=of_decide_eq_true (by first|(with_reducible assumption)|assumption)
           obtain ⟨i031,hi031,_,hsz31,_⟩:=info_parts info9
           have hroom31:t101.length≤co21:=(Kd.R_reads' HO_6.out).2.1
           have hC31:Kd.C Kd.string _ (some ad111) t101.length t101:=(Kd.R_reads' HO_6.out).2.2
           have hcut31:=cut_from (P:=Tryz.prog) 55 9 .i64 Tryz.underlying55 hi031 1 hsz31 (some ad111) t101.length co21 1 (by omega) q31
           have hr31:=Kd.C_drop (m:=(1:Int).toNat) (c:=co21) hC31 (by omega) hroom31
           obtain ⟨A31,hA31⟩:∃ A1,A1=(if co21=(1:Int).toNat then (some ad111) else ((some ad111):Option Addr).map (·.add ((1:Int).toNat * 1))):=⟨_,rfl⟩
           obtain ⟨c31,hc31⟩:∃ c1,c1=co21 - (1:Int).toNat:=⟨_,rfl⟩
           have hy31:y115.length=t101.length - (1:Int).toNat:=(by rw [Ny115.out,List.length_drop] <;> omega)
           rw [show (t101).drop (1:Int).toNat=y115 from Ny115.out.symm] at hr31
           replace hr31:Kd.C Kd.string _ A31 y115.length y115:=(by rw [hA31];exact hr31)
           rw [← hy31,← hA31,← hc31] at hcut31
           have HR118:=Aside0.mk hr31
           have HC118:=Aside0.mk (show y115.length≤c31 from by rw [hy31,hc31];exact Nat.sub_le_sub_right hroom31 _)
           clear hr31 hC31 hroom31 hi031 hsz31 hc31
           have KY31:=Aside0.mk hy31
           have KA31:=Aside0.mk hA31
           clear hy31 hA31
           have KL31:=Aside0.mk (show 1≤t101.length from by omega)
           replace q31:=eq_true q31
           go_wp2
           go_loopg [11,65] kj24 (fun kq v11 v65 w' => ∃ (x11_4:List Int) (x65_4:Int),v65=.int .i64 x65_4∧Aside0 (script_Line.l0 kq t101 x11_4 y115 (y115.length:Int) x65_4=some (r1,r2,r3,r4))∧Aside0 (kq≤kj24)∧Aside0 (Kd.R Kd.string 9 w' w.heap.size (fun _ => True) (.slice (some ad111) t101.length co21) t101)∧Aside0 (Kd.R (Kd.int .i64) 2 w' w.heap.size (fun _ => True) v11 x11_4)∧Aside0 (Kd.C Kd.string w' A31 y115.length y115)∧Aside0 (Below w.heap.size w w'))
           case atStart => exact ⟨(([]:List Int)),(0),(by first|rfl|(simp;done)|(simp [*];done)),H',⟨Nat.le_refl _⟩,⟨by (with_reducible repeat (first|apply Kd.R_alloc|apply Kd.R_drewN|apply Kd.R_drew));exact HO_6.out⟩,⟨by first|exact Kd.R_nil _ _ _ _ _|exact Kd.N_nil _ _ _ _ _|exact Kd.V_nil _ _ _ _ _|exact Kd.Q_nil _ _ _ _ _|exact Kd.S_nil _ _ _ _ _⟩,⟨by repeat (first|(with_reducible exact HR118.out)|(with_reducible refine Kd.C_alloc ?_ _)|(with_reducible refine Kd.C_drewN ?_ _)|(with_reducible refine Kd.C_drew ?_)|exact HR118.out)⟩,⟨by repeat (first|(with_reducible first|exact HB.out|apply below_alloc|apply pw_below_drewN|apply below_drew1)|exact HB.out)⟩⟩
           case round =>
            clear H'
            try clear c1;try clear p1;try clear q1;try clear hx1;try clear qi1;try clear c2;try clear p2;try clear c3;try clear q3;try clear c5;try clear c5b0;try clear c5b1;try clear c6;try clear c6b0;try clear c6b1;try clear p6;try clear c9;try clear c10;try clear c10b0;try clear c10b1;try clear p10;try clear q10;try clear hx10;try clear qi10;try clear p11;try clear q11;try clear hx11;try clear qi11;try clear c12;try clear c13;try clear c13b0;try clear c13b1;try clear c14;try clear c15;try clear c18;try clear c18b0;try clear c18b1;try clear c23;try clear c23b0;try clear c26;try clear c26b0;try clear c27;try clear c27b0;try clear c27b1;try clear c28;try clear c28b0;try clear c28b1;try clear c29;try clear c30;try clear c30b0;try clear c30b1;try clear c31;try clear q31;try clear hx104_0;try clear hx105_0;try clear hx110_0;try clear hx111_0;try clear hx114_0;try clear p1;try clear p10;try clear p104;try clear p105;try clear p11;try clear p110;try clear p111;try clear p114;try clear p2;try clear p6;try clear q1;try clear q10;try clear q104;try clear q105;try clear q11;try clear q110;try clear q111;try clear q114;try clear q31
            obtain ⟨x11_4,x65_4,rfl,HA,HK4,HO_6,HO_11,HR118,HB⟩:=hrel
            cases gk with
            | zero => exact absurd HA.out (by simp [script_Line.l0])
            | succ k4 =>
             have H:=HA.out
             clear HA
             simp only [script_Line.l0] at H
             by_cases c32:x65_4 < (y115.length:Int)
             ·rw [if_pos c32] at H
              have c32b0:decide (x65_4 < (y115.length:Int))=true:=decide_eq_true c32
              clear c32
              by_cases c33:0≤x65_4
              ·rw [if_pos c33] at H
               have c33b0:decide (0≤x65_4)=true:=decide_eq_true c33
               clear c33
               by_cases c34:x65_4 < (y115.length:Int)
               ·rw [if_pos c34] at H
                have c34b0:decide (x65_4 < (y115.length:Int))=true:=decide_eq_true c34
                clear c34
                replace H:=Option.bind_eq_some_iff.mp H
                obtain ⟨⟨t120,t121⟩,A350,H⟩:=H
                replace H:(if t121=true then (if x11_4.length < 17592186044416 then (script_Line.l0 k4 t101 (x11_4++[t120]) y115 (y115.length:Int) (wrap64 (x65_4 + 1))) else (none)) else (some ((⟨#[]⟩:ByteArray),([]:List Int),([]:List Int),4)))=some (r1,r2,r3,r4):=H
                have A35:=Aside0.mk A350
                clear A350
                by_cases c36:t121=true
                ·subst c36
                 have H1:(if x11_4.length < 17592186044416 then (script_Line.l0 k4 t101 (x11_4++[t120]) y115 (y115.length:Int) (wrap64 (x65_4 + 1))) else (none))=some (r1,r2,r3,r4):=by rw [if_pos rfl] at H;exact H
                 clear H
                 have H:=H1
                 clear H1
                 by_cases c37:x11_4.length < 17592186044416
                 ·rw [if_pos c37] at H
                  have LMc37:=Aside0.mk c37
                  clear c37
                  obtain ⟨y122,hy122⟩:∃ y_:List Int,y_=(x11_4++[t120]):=⟨_,rfl⟩
                  replace H:(script_Line.l0 k4 t101 y122 y115 (y115.length:Int) (wrap64 (x65_4 + 1)))=some (r1,r2,r3,r4):=by first|(rw [hy122];with_reducible exact H)|(have H2_:=(Option.bind_some _ _).symm.trans H;rw [hy122];with_reducible exact H2_)|(have H2_:=(Option.bind_some _ _).symm.trans H;with_reducible exact H2_)|with_reducible exact H|(rw [hy122];exact H)|exact H
                  have Ny122:=Aside0.mk hy122
                  clear hy122
                  have H':=Aside0.mk H
                  clear H
                  have p119:0≤(x65_4:Int):=of_decide_eq_true (by first|(with_reducible assumption)|assumption)
                  have q119:x65_4 < (y115.length:Int):=of_decide_eq_true (by first|(with_reducible assumption)|assumption)
                  obtain ⟨ad119,e119,hx119_0⟩:=Kd.at_string HR118.out x65_4 p119 q119
                  cases e119
                  try replace hx119_0:=(HB.out.cell (World.block_lt_of_cell? w _ hx119_0)).trans hx119_0
                  replace p119:=eq_true p119
                  replace q119:=eq_true q119
                  go_wp2_with (first|((with_reducible refine gate_callee (f:=29) rfl ?_);refine goesL_ (some 71) rfl rfl Tryz.func29 (by kernel_rfl) rfl #[.string (rdOf ByteArray.empty y115 x65_4)] rfl (by (try simp only [List.map_toArray,List.map_cons,List.map_nil]);first|done|rfl|(simp only [List.length_drop,List.length_take];rfl)) ?_;(with_reducible refine (script_number.calls (rdOf ByteArray.empty y115 x65_4) t120 true _ ?side1 A35.out).mono ?_);(case side1 => exact ⟨GG.below hG.out (by repeat (first|(with_reducible first|exact HB.out|apply below_alloc|apply pw_below_drewN|apply below_drew1)|exact HB.out))⟩);rintro e w38 ⟨rfl,hb⟩;refine ⟨_,rfl,?_⟩;have n0_:=Aside0.mk (Kd.R_below (by (with_reducible repeat (first|apply Kd.R_alloc|apply Kd.R_drewN|apply Kd.R_drew));exact HO_6.out) hb);have n1_:=Aside0.mk (Kd.R_below (by (with_reducible repeat (first|apply Kd.R_alloc|apply Kd.R_drewN|apply Kd.R_drew));exact HO_11.out) hb);have n2_:=Aside0.mk (Kd.C_below (by repeat (first|(with_reducible exact HR118.out)|(with_reducible refine Kd.C_alloc ?_ _)|(with_reducible refine Kd.C_drewN ?_ _)|(with_reducible refine Kd.C_drew ?_)|exact HR118.out)) hb);have n3_:=Aside0.mk (below_step (by repeat (first|(with_reducible first|exact HB.out|apply below_alloc|apply pw_below_drewN|apply below_drew1)|exact HB.out)) hb);clear HO_6;clear HO_11;clear HR118;clear HB;have HO_6:=n0_;have HO_11:=n1_;have HR118:=n2_;have HB:=n3_;clear n0_ n1_ n2_ n3_;(try clear hb);(try clear hb2);(try clear hk);(try clear hi))|((with_reducible refine gate_builtin (b:=.append) (xs:=#[.tmp 76,.tmp 78]) rfl ?_);(try (refine gate_guard (by rfl) ?_;dsimp only));at_builtin;refine Kd.R_append (Kd.int .i64) (w0:=w) w.heap.size rfl (.tmp 76) (.tmp 78) 46 2 (.int .i64 0) 8 rfl Tryz.underlying46 info2 rfl (by decide) (by omega) u11 x11_4 t120 [.int .i64 t120] (fun _ => True) (fun _ => False) rfl rfl ?aP (fun _ hk => hk.elim) ?aF ?aO ?aB ?aS ?aL ?_;(case aP => exact rfl);(case aB => exact (by repeat (first|(with_reducible first|exact HB.out|apply below_alloc|apply pw_below_drewN|apply below_drew1)|exact HB.out)));(case aF => exact (fun _ _ => trivial));(case aO => exact (by (with_reducible repeat (first|apply Kd.R_alloc|apply Kd.R_drewN|apply Kd.R_drew));exact HO_11.out));(case aS => exact (below_size (by repeat (first|(with_reducible first|exact HB.out|apply below_alloc|apply pw_below_drewN|apply below_drew1)|exact HB.out))));(case aL => have:=LMc37.out;omega);intro v123 w39 ho hb hg hat;rw [← Ny122.out] at ho;have n0_:=Aside0.mk (Kd.R_over' (by (with_reducible repeat (first|apply Kd.R_alloc|apply Kd.R_drewN|apply Kd.R_drew));exact HO_6.out) (Kd.R_typed (by (with_reducible repeat (first|apply Kd.R_alloc|apply Kd.R_drewN|apply Kd.R_drew));exact HO_11.out)) (by decide) hg);have n1_:=Aside0.mk (hb);have n2_:=Aside0.mk ((show Kd.C Kd.string w39 (some ad119) y115.length y115 from by rw [Ny115.out,KA31.out];exact Kd.C_drop (m:=1) (c:=co21) ((Kd.R_reads' (Kd.R_over' (by (with_reducible repeat (first|apply Kd.R_alloc|apply Kd.R_drewN|apply Kd.R_drew));exact HO_6.out) (Kd.R_typed (by (with_reducible repeat (first|apply Kd.R_alloc|apply Kd.R_drewN|apply Kd.R_drew));exact HO_11.out)) (by decide) hg)).2.2) KL31.out ((Kd.R_reads' (Kd.R_over' (by (with_reducible repeat (first|apply Kd.R_alloc|apply Kd.R_drewN|apply Kd.R_drew));exact HO_6.out) (Kd.R_typed (by (with_reducible repeat (first|apply Kd.R_alloc|apply Kd.R_drewN|apply Kd.R_drew));exact HO_11.out)) (by decide) hg)).2.1)));have n3_:=Aside0.mk (ho);clear HO_6;clear HB;clear HR118;clear HO_11;have HO_6:=n0_;have HB:=n1_;have HR118:=n2_;have HO124:=n3_;clear n0_ n1_ n2_ n3_;clear ho hb hg hat))
                  go_roundg k4
                  case measure => have:=HJ2.out;have:=HJ19.out;have:=HJ24.out;have:=HK4.out;omega
                  case rel => exact ⟨(y122),(wrap64 (x65_4 + 1)),(by first|rfl|(simp;done)|(simp [*];done)),H',⟨by have:=HJ2.out;have:=HJ19.out;have:=HJ24.out;have:=HK4.out;omega⟩,⟨by (with_reducible repeat (first|apply Kd.R_alloc|apply Kd.R_drewN|apply Kd.R_drew));exact HO_6.out⟩,⟨by (with_reducible repeat (first|apply Kd.R_alloc|apply Kd.R_drewN|apply Kd.R_drew));exact HO124.out⟩,⟨by repeat (first|(with_reducible exact HR118.out)|(with_reducible refine Kd.C_alloc ?_ _)|(with_reducible refine Kd.C_drewN ?_ _)|(with_reducible refine Kd.C_drew ?_)|exact HR118.out)⟩,⟨by repeat (first|(with_reducible first|exact HB.out|apply below_alloc|apply pw_below_drewN|apply below_drew1)|exact HB.out)⟩⟩
                 ·rw [if_neg c37] at H
                  exact absurd H (by simp)
                ·replace c36:=Bool.eq_false_iff.mpr c36
                 subst c36
                 have H1:(some ((⟨#[]⟩:ByteArray),([]:List Int),([]:List Int),4))=some (r1,r2,r3,r4):=by rw [if_neg (show ¬ (false=true) by decide)] at H;exact H
                 clear H
                 have H:=H1
                 clear H1
                 simp only [Option.some.injEq,Prod.mk.injEq] at H
                 obtain ⟨rfl,rfl,rfl,rfl⟩:=H
                 have p119:0≤(x65_4:Int):=of_decide_eq_true (by first|(with_reducible assumption)|assumption)
                 have q119:x65_4 < (y115.length:Int):=of_decide_eq_true (by first|(with_reducible assumption)|assumption)
                 obtain ⟨ad119,e119,hx119_0⟩:=Kd.at_string HR118.out x65_4 p119 q119
                 cases e119
                 try replace hx119_0:=(HB.out.cell (World.block_lt_of_cell? w _ hx119_0)).trans hx119_0
                 replace p119:=eq_true p119
                 replace q119:=eq_true q119
                 go_wp2_with (first|((with_reducible refine gate_callee (f:=29) rfl ?_);refine goesL_ (some 71) rfl rfl Tryz.func29 (by kernel_rfl) rfl #[.string (rdOf ByteArray.empty y115 x65_4)] rfl (by (try simp only [List.map_toArray,List.map_cons,List.map_nil]);first|done|rfl|(simp only [List.length_drop,List.length_take];rfl)) ?_;(with_reducible refine (script_number.calls (rdOf ByteArray.empty y115 x65_4) t120 false _ ?side1 A35.out).mono ?_);(case side1 => exact ⟨GG.below hG.out (by repeat (first|(with_reducible first|exact HB.out|apply below_alloc|apply pw_below_drewN|apply below_drew1)|exact HB.out))⟩);rintro e w40 ⟨rfl,hb⟩;refine ⟨_,rfl,?_⟩;have n0_:=Aside0.mk (Kd.R_below (by (with_reducible repeat (first|apply Kd.R_alloc|apply Kd.R_drewN|apply Kd.R_drew));exact HO_6.out) hb);have n1_:=Aside0.mk (Kd.R_below (by (with_reducible repeat (first|apply Kd.R_alloc|apply Kd.R_drewN|apply Kd.R_drew));exact HO_11.out) hb);have n2_:=Aside0.mk (Kd.C_below (by repeat (first|(with_reducible exact HR118.out)|(with_reducible refine Kd.C_alloc ?_ _)|(with_reducible refine Kd.C_drewN ?_ _)|(with_reducible refine Kd.C_drew ?_)|exact HR118.out)) hb);have n3_:=Aside0.mk (below_step (by repeat (first|(with_reducible first|exact HB.out|apply below_alloc|apply pw_below_drewN|apply below_drew1)|exact HB.out)) hb);clear HO_6;clear HO_11;clear HR118;clear HB;have HO_6:=n0_;have HO_11:=n1_;have HR118:=n2_;have HB:=n3_;clear n0_ n1_ n2_ n3_;(try clear hb);(try clear hb2);(try clear hk);(try clear hi)))
                 refine bodyPost_ret (results_list (rs:=[.tmp 2,.tmp 3,.tmp 4,.tmp 5]) rfl (by simp) (.tmp (.tmp (.tmp (.tmp .nil))))) rfl ?_
                 exact ⟨_,_,by first|rfl|(simp [errW_none,errW_some] <;> rfl)|(simp [*,errW_none,errW_some] <;> rfl),by first|exact Kd.R_nil _ _ _ _ _|exact Kd.N_nil _ _ _ _ _|exact Kd.V_nil _ _ _ _ _|exact Kd.Q_nil _ _ _ _ _|exact Kd.S_nil _ _ _ _ _,by first|exact Kd.R_nil _ _ _ _ _|exact Kd.N_nil _ _ _ _ _|exact Kd.V_nil _ _ _ _ _|exact Kd.Q_nil _ _ _ _ _|exact Kd.S_nil _ _ _ _ _,by repeat (first|(with_reducible first|exact HB.out|apply below_alloc|apply pw_below_drewN|apply below_drew1)|exact HB.out)⟩
               ·rw [if_neg c34] at H
                exact absurd H (by simp)
              ·rw [if_neg c33] at H
               exact absurd H (by simp)
             ·rw [if_neg c32] at H
              have c32b0:decide (x65_4 < (y115.length:Int))=false:=decide_eq_false c32
              clear c32
              by_cases c41:0 < (t101.length:Int)
              ·rw [if_pos c41] at H
               have c41b0:decide (0 < (t101.length:Int))=true:=decide_eq_true c41
               have c41b1:decide (0 < t101.length)=true:=decide_eq_true (by omega)
               clear c41
               simp only [Option.some.injEq,Prod.mk.injEq] at H
               obtain ⟨rfl,rfl,rfl,rfl⟩:=H
               have p125:0≤(0:Int):=(by omega)
               have q125:0 < (t101.length:Int):=of_decide_eq_true (by first|(with_reducible assumption)|assumption)
               obtain ⟨ad125,e125,hx125_0⟩:=Kd.at_string (Kd.R_reads' HO_6.out).2.2 0 p125 q125
               obtain rfl:ad111=ad125:=(by injection e125)
               have qi125:(0 < t101.length)=True:=eq_true (by omega)
               (try rw [show ((0:Int)).toNat=0 from rfl] at hx125_0)
               (try rw [Addr.add_zero'] at hx125_0)
               replace p125:=eq_true p125
               replace q125:=eq_true q125
               go_wp2
               refine bodyPost_ret (results_list (rs:=[.tmp 2,.tmp 3,.tmp 4,.tmp 5]) rfl (by simp) (.tmp (.tmp (.tmp (.tmp .nil))))) rfl ?_
               exact ⟨_,_,by first|rfl|(simp [errW_none,errW_some] <;> rfl)|(simp [*,errW_none,errW_some] <;> rfl),by first|exact Kd.R_nil _ _ _ _ _|exact Kd.N_nil _ _ _ _ _|exact Kd.V_nil _ _ _ _ _|exact Kd.Q_nil _ _ _ _ _|exact Kd.S_nil _ _ _ _ _,by (with_reducible repeat (first|apply Kd.R_alloc|apply Kd.R_drewN|apply Kd.R_drew));exact HO_11.out,by repeat (first|(with_reducible first|exact HB.out|apply below_alloc|apply pw_below_drewN|apply below_drew1)|exact HB.out)⟩
              ·rw [if_neg c41] at H
               exact absurd H (by simp)
          ·rw [if_neg c30] at H
           exact absurd H (by simp)
    ·rw [if_neg c18] at H
     exact absurd H (by simp)
end Go.Proofs.YtpofikjkccljlaaGreatDoor.Px

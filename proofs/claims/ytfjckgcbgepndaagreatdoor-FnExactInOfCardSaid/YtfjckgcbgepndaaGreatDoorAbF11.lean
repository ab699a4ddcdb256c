/- What the functions compute, and their contracts, part 11. No condition beyond KOk. -/
import Derived.Test.YtfjckgcbgepndaaGreatDoorAbX
import Derived.Test.YtfjckgcbgepndaaGreatDoorAbF1
import Derived.Test.YtfjckgcbgepndaaGreatDoorAbF8
import Derived.Test.YtfjckgcbgepndaaGreatDoorAbF9
import Derived.Test.YtfjckgcbgepndaaGreatDoorAbF10
namespace Go.Ab
open Go.Proofs
set_option linter.unusedVariables false
set_option linter.unusedSimpArgs false
def laws_markGraph_sv.f (k : Nat) (v0 : (List S88)) (v1 : (List S90)) (v2 : Int) : Option (Int) := ((laws_markNodeS_sv.f k v0 v2).bind fun v3 => ((laws_markEdgeS_sv.f k v1 v3).bind fun v4 => (some v4)))
set_option maxRecDepth 100000 in
set_option maxHeartbeats 4000000 in
theorem laws_markGraph_sv.con {K : Kn} [KOk K] {k : Nat} {v0 : (List S88)} {v1 : (List S90)} {v2 : Int} {r : Int} (h : laws_markGraph_sv.f k v0 v1 v2 = some r) : Con K Tryz.prog 40 [.agg [.sh 1000 0 (List.map en88 v0), .sh 1000 0 (List.map en90 v1)], .p (.int .i64 v2)] [(1000, (0, .pool))] (.p (.int .i64 r)) [(1000, (0, .pool))] := by
 rw [laws_markGraph_sv.f] at h
 refine con_intro 14 [] Tryz.func40 (by kernel_rfl) rfl rfl (by kernel_rfl) fun ι0 w0 hk0 => ?_
 revert h
 refine go 3 ?_
 refine grs ?_
 refine gr_run ?_
 refine bind_e (fun v3 e3 => gr_call [(1000, (0, 1000, 0))] (laws_markNodeS_sv.con e3) ?_)
 clear e3
 refine gr_run ?_
 refine gr_done ?_
 refine go 1 ?_
 refine grs ?_
 refine gr_run ?_
 refine bind_e (fun v4 e4 => gr_call [(1000, (0, 1000, 0))] (laws_markEdgeS_sv.con e4) ?_)
 clear e4
 refine gr_run ?_
 refine gr_done ?_
 refine go 2 ?_
 refine ret_e (fun hr_ => ?_)
 subst hr_
 exact ret_ Tryz.func40 [(1000, (0, 1000, 0))]
def laws_FnExactInOf.f (k : Nat) (v0 : S43) (v1 : Int) : Option (Bool) := ((laws_szGraph.f k v0 1048576).bind fun v2 => (bif decide (v2 < 0) then (some true) else ((laws_toGraph.f k v0).bind fun v3 => ((spec_InOf_O.f k v3 v1).bind fun v4 => ((laws_toGraph.f k v0).bind fun v5 => ((impl_InOf_O.f k v5 v1).bind fun v6 => ((laws_eqInt64S_bb.f k v6.length v4.length v6 v4).bind fun v7 => (bif v7 then ((laws_toGraph.f k v0).bind fun v8 => ((laws_eqGraph.f k v5 v8).bind fun v9 => (bif v9 then ((laws_markGraph_sv.f k v5.f0 v5.f1 1).bind fun v10 => (bif decide (v10 < 0) then (some false) else ((laws_eqInt64S_bb.f k v6.length v4.length v6 v4).bind fun v11 => (bif v11 then ((laws_markInt64S_bv.f k v6.length 1 v6).bind fun v12 => ((laws_heldInt64S_bv.f k v6.length 1 v12.2).bind fun v13 => (bif decide (v13 < 0) then (some false) else (bif (v13 == v12.1) then ((laws_toGraph.f k v0).bind fun v14 => ((impl_InOf_O.f k v14 v1).bind fun v15 => ((laws_eqInt64S_bb.f k v15.length v4.length v15 v4).bind fun v16 => (bif v16 then ((laws_heldInt64S_bv.f k v6.length 1 v12.2).bind fun v17 => (bif decide (v17 < 0) then (some false) else (bif (v17 == v12.1) then (some true) else (some false)))) else (some false))))) else (some false))))) else (some false))))) else (some false)))) else (some false)))))))))
set_option maxRecDepth 100000 in
set_option maxHeartbeats 4000000 in
theorem laws_FnExactInOf.con {K : Kn} [KOk K] {k : Nat} {v0 : S43} {v1 : Int} {r : Bool} (h : laws_FnExactInOf.f k v0 v1 = some r) : ConT K Tryz.prog 8 [.agg [.od (.lst false (List.map en145 v0.f0)), .od (.lst false (List.map en148 v0.f1))], .p (.int .i64 v1)] [] (.p (.bool r)) [] := by
 rw [laws_FnExactInOf.f] at h
 refine conT_intro 74 [] Tryz.func8 (by kernel_rfl) rfl rfl (by kernel_rfl) fun ι0 w0 hN0 hk0 => ?_
 revert h
 refine go 5 ?_
 refine grs ?_
 refine gr_run ?_
 refine bind_e (fun v2 e2 => gr_call [] (laws_szGraph.con e2) ?_)
 clear e2
 refine gr_run ?_
 refine gr_done ?_
 refine bif_e (fun c1 => ?_) (fun c1 => ?_)
 ·refine go 6 ?_
  refine ret_e (fun hr_ => ?_)
  subst hr_
  exact ret_ Tryz.func8 []
 ·refine go 6 ?_
  refine grs ?_
  refine gr_run ?_
  refine bind_e (fun v3 e3 => gr_call [] (laws_toGraph.con e3) ?_)
  clear e3
  refine gr_run ?_
  refine bind_e (fun v4 e4 => gr_call [(2000, (1, 21, 1))] (spec_InOf_O.con e4) ?_)
  clear e4
  refine gr_run ?_
  refine gr_done ?_
  refine go 1 ?_
  refine grs ?_
  refine gr_run ?_
  refine bind_e (fun v5 e5 => gr_call [] (laws_toGraph.con e5) ?_)
  clear e5
  refine gr_run ?_
  refine gr_done ?_
  refine go 1 ?_
  refine grs ?_
  refine gr_run ?_
  refine bind_e (fun v6 e6 => gr_call [(2000, (1, 26, 1))] (impl_InOf_O.con e6) ?_)
  clear e6
  refine gr_run ?_
  refine gr_done ?_
  refine go 2 ?_
  refine grs ?_
  refine gr_run ?_
  refine bind_e (fun v7 e7 => gr_call [(1000, (0, 26, 1)), (1001, (0, 21, 1))] (laws_eqInt64S_bb.con e7) ?_)
  clear e7
  refine gr_run ?_
  refine gr_done ?_
  refine bif_e (fun c2 => ?_) (fun c2 => ?_)
  ·refine go 4 ?_
   refine grs ?_
   refine gr_run ?_
   refine bind_e (fun v8 e8 => gr_call [] (laws_toGraph.con e8) ?_)
   clear e8
   refine bind_e (fun v9 e9 => gr_call [] (laws_eqGraph.con e9) ?_)
   clear e9
   refine gr_run ?_
   refine gr_done ?_
   refine bif_e (fun c3 => ?_) (fun c3 => ?_)
   ·refine go 5 ?_
    refine pool_ 900 (⟨[(1, .p (.int .i64 v1)), (2, .ptr 2 1 0), (6, .buf 21 1 0 v4.length), (7, .ptr 7 1 0), (8, .buf 26 1 0 v6.length), (9, .p (.int .i64 1))], [(2, (1, .cells [.od (.lst false (List.map en145 v0.f0)), .od (.lst false (List.map en148 v0.f1))])), (21, (1, .buf 1 (List.map (irow .i64) v4))), (7, (1, .cells [.nw (.lst false (List.map en88 v5.f0)), .nw (.lst false (List.map en90 v5.f1))])), (26, (1, .buf 1 (List.map (irow .i64) v6)))]⟩) (⟨[(1, .p (.int .i64 v1)), (2, .ptr 2 1 0), (6, .buf 21 1 0 v4.length), (7, .ptr 7 1 0), (8, .buf 26 1 0 v6.length), (9, .p (.int .i64 1))], [(900, (1, .pool)), (2, (1, .cells [.od (.lst false (List.map en145 v0.f0)), .od (.lst false (List.map en148 v0.f1))])), (21, (1, .buf 1 (List.map (irow .i64) v4))), (7, (1, .cells [.sh 900 1 (List.map en88 v5.f0), .sh 900 1 (List.map en90 v5.f1)])), (26, (1, .buf 1 (List.map (irow .i64) v6)))]⟩) ?_
    refine grs ?_
    refine gr_run ?_
    refine bind_e (fun v10 e10 => gr_call [(1000, (0, 900, 1))] (laws_markGraph_sv.con e10) ?_)
    clear e10
    refine gr_run ?_
    refine gr_done ?_
    refine bif_e (fun c4 => ?_) (fun c4 => ?_)
    ·refine go 6 ?_
     refine ret_e (fun hr_ => ?_)
     subst hr_
     exact ret_ Tryz.func8 []
    ·refine go 2 ?_
     refine grs ?_
     refine gr_run ?_
     refine bind_e (fun v11 e11 => gr_call [(1000, (0, 26, 1)), (1001, (0, 21, 1))] (laws_eqInt64S_bb.con e11) ?_)
     clear e11
     refine gr_run ?_
     refine gr_done ?_
     refine bif_e (fun c5 => ?_) (fun c5 => ?_)
     ·refine go 5 ?_
      refine grs ?_
      refine gr_run ?_
      refine bind_e (fun v12 e12 => gr_call [(1000, (0, 26, 1))] (laws_markInt64S_bv.con e12) ?_)
      clear e12
      refine gr_run ?_
      refine gr_done ?_
      refine go 3 ?_
      refine grs ?_
      refine gr_run ?_
      refine bind_e (fun v13 e13 => gr_call [(1000, (0, 26, 1))] (laws_heldInt64S_bv.con e13) ?_)
      clear e13
      refine gr_run ?_
      refine gr_done ?_
      refine bif_e (fun c6 => ?_) (fun c6 => ?_)
      ·refine go 6 ?_
       refine ret_e (fun hr_ => ?_)
       subst hr_
       exact ret_ Tryz.func8 []
      ·refine bif_e (fun c7 => ?_) (fun c7 => ?_)
       ·refine go 11 ?_
        refine grs ?_
        refine gr_run ?_
        refine bind_e (fun v14 e14 => gr_call [] (laws_toGraph.con e14) ?_)
        clear e14
        refine gr_run ?_
        refine bind_e (fun v15 e15 => gr_call [(2000, (1, 61, 1))] (impl_InOf_O.con e15) ?_)
        clear e15
        refine gr_run ?_
        refine gr_done ?_
        refine go 2 ?_
        refine grs ?_
        refine gr_run ?_
        refine bind_e (fun v16 e16 => gr_call [(1000, (0, 61, 1)), (1001, (0, 21, 1))] (laws_eqInt64S_bb.con e16) ?_)
        clear e16
        refine gr_run ?_
        refine gr_done ?_
        refine bif_e (fun c8 => ?_) (fun c8 => ?_)
        ·refine go 5 ?_
         refine grs ?_
         refine gr_run ?_
         refine bind_e (fun v17 e17 => gr_call [(1000, (0, 26, 1))] (laws_heldInt64S_bv.con e17) ?_)
         clear e17
         refine gr_run ?_
         refine gr_done ?_
         refine bif_e (fun c9 => ?_) (fun c9 => ?_)
         ·refine go 6 ?_
          refine ret_e (fun hr_ => ?_)
          subst hr_
          exact ret_ Tryz.func8 []
         ·refine bif_e (fun c10 => ?_) (fun c10 => ?_)
          ·refine go 12 ?_
           refine ret_e (fun hr_ => ?_)
           subst hr_
           exact ret_ Tryz.func8 []
          ·refine go 11 ?_
           refine ret_e (fun hr_ => ?_)
           subst hr_
           exact ret_ Tryz.func8 []
        ·refine go 3 ?_
         refine ret_e (fun hr_ => ?_)
         subst hr_
         exact ret_ Tryz.func8 []
       ·refine go 11 ?_
        refine ret_e (fun hr_ => ?_)
        subst hr_
        exact ret_ Tryz.func8 []
     ·refine go 3 ?_
      refine ret_e (fun hr_ => ?_)
      subst hr_
      exact ret_ Tryz.func8 []
   ·refine go 3 ?_
    refine ret_e (fun hr_ => ?_)
    subst hr_
    exact ret_ Tryz.func8 []
  ·refine go 3 ?_
   refine ret_e (fun hr_ => ?_)
   subst hr_
   exact ret_ Tryz.func8 []
def laws_FnExactOutOf.f (k : Nat) (v0 : S43) (v1 : Int) : Option (Bool) := ((laws_szGraph.f k v0 1048576).bind fun v2 => (bif decide (v2 < 0) then (some true) else ((laws_toGraph.f k v0).bind fun v3 => ((spec_OutOf_O.f k v3 v1).bind fun v4 => ((laws_toGraph.f k v0).bind fun v5 => ((impl_OutOf_O.f k v5 v1).bind fun v6 => ((laws_eqInt64S_bb.f k v6.length v4.length v6 v4).bind fun v7 => (bif v7 then ((laws_toGraph.f k v0).bind fun v8 => ((laws_eqGraph.f k v5 v8).bind fun v9 => (bif v9 then ((laws_markGraph_sv.f k v5.f0 v5.f1 1).bind fun v10 => (bif decide (v10 < 0) then (some false) else ((laws_eqInt64S_bb.f k v6.length v4.length v6 v4).bind fun v11 => (bif v11 then ((laws_markInt64S_bv.f k v6.length 1 v6).bind fun v12 => ((laws_heldInt64S_bv.f k v6.length 1 v12.2).bind fun v13 => (bif decide (v13 < 0) then (some false) else (bif (v13 == v12.1) then ((laws_toGraph.f k v0).bind fun v14 => ((impl_OutOf_O.f k v14 v1).bind fun v15 => ((laws_eqInt64S_bb.f k v15.length v4.length v15 v4).bind fun v16 => (bif v16 then ((laws_heldInt64S_bv.f k v6.length 1 v12.2).bind fun v17 => (bif decide (v17 < 0) then (some false) else (bif (v17 == v12.1) then (some true) else (some false)))) else (some false))))) else (some false))))) else (some false))))) else (some false)))) else (some false)))))))))
set_option maxRecDepth 100000 in
set_option maxHeartbeats 4000000 in
theorem laws_FnExactOutOf.con {K : Kn} [KOk K] {k : Nat} {v0 : S43} {v1 : Int} {r : Bool} (h : laws_FnExactOutOf.f k v0 v1 = some r) : ConT K Tryz.prog 9 [.agg [.od (.lst false (List.map en145 v0.f0)), .od (.lst false (List.map en148 v0.f1))], .p (.int .i64 v1)] [] (.p (.bool r)) [] := by
 rw [laws_FnExactOutOf.f] at h
 refine conT_intro 74 [] Tryz.func9 (by kernel_rfl) rfl rfl (by kernel_rfl) fun ι0 w0 hN0 hk0 => ?_
 revert h
 refine go 5 ?_
 refine grs ?_
 refine gr_run ?_
 refine bind_e (fun v2 e2 => gr_call [] (laws_szGraph.con e2) ?_)
 clear e2
 refine gr_run ?_
 refine gr_done ?_
 refine bif_e (fun c1 => ?_) (fun c1 => ?_)
 ·refine go 6 ?_
  refine ret_e (fun hr_ => ?_)
  subst hr_
  exact ret_ Tryz.func9 []
 ·refine go 6 ?_
  refine grs ?_
  refine gr_run ?_
  refine bind_e (fun v3 e3 => gr_call [] (laws_toGraph.con e3) ?_)
  clear e3
  refine gr_run ?_
  refine bind_e (fun v4 e4 => gr_call [(2000, (1, 21, 1))] (spec_OutOf_O.con e4) ?_)
  clear e4
  refine gr_run ?_
  refine gr_done ?_
  refine go 1 ?_
  refine grs ?_
  refine gr_run ?_
  refine bind_e (fun v5 e5 => gr_call [] (laws_toGraph.con e5) ?_)
  clear e5
  refine gr_run ?_
  refine gr_done ?_
  refine go 1 ?_
  refine grs ?_
  refine gr_run ?_
  refine bind_e (fun v6 e6 => gr_call [(2000, (1, 26, 1))] (impl_OutOf_O.con e6) ?_)
  clear e6
  refine gr_run ?_
  refine gr_done ?_
  refine go 2 ?_
  refine grs ?_
  refine gr_run ?_
  refine bind_e (fun v7 e7 => gr_call [(1000, (0, 26, 1)), (1001, (0, 21, 1))] (laws_eqInt64S_bb.con e7) ?_)
  clear e7
  refine gr_run ?_
  refine gr_done ?_
  refine bif_e (fun c2 => ?_) (fun c2 => ?_)
  ·refine go 4 ?_
   refine grs ?_
   refine gr_run ?_
   refine bind_e (fun v8 e8 => gr_call [] (laws_toGraph.con e8) ?_)
   clear e8
   refine bind_e (fun v9 e9 => gr_call [] (laws_eqGraph.con e9) ?_)
   clear e9
   refine gr_run ?_
   refine gr_done ?_
   refine bif_e (fun c3 => ?_) (fun c3 => ?_)
   ·refine go 5 ?_
    refine pool_ 900 (⟨[(1, .p (.int .i64 v1)), (2, .ptr 2 1 0), (6, .buf 21 1 0 v4.length), (7, .ptr 7 1 0), (8, .buf 26 1 0 v6.length), (9, .p (.int .i64 1))], [(2, (1, .cells [.od (.lst false (List.map en145 v0.f0)), .od (.lst false (List.map en148 v0.f1))])), (21, (1, .buf 1 (List.map (irow .i64) v4))), (7, (1, .cells [.nw (.lst false (List.map en88 v5.f0)), .nw (.lst false (List.map en90 v5.f1))])), (26, (1, .buf 1 (List.map (irow .i64) v6)))]⟩) (⟨[(1, .p (.int .i64 v1)), (2, .ptr 2 1 0), (6, .buf 21 1 0 v4.length), (7, .ptr 7 1 0), (8, .buf 26 1 0 v6.length), (9, .p (.int .i64 1))], [(900, (1, .pool)), (2, (1, .cells [.od (.lst false (List.map en145 v0.f0)), .od (.lst false (List.map en148 v0.f1))])), (21, (1, .buf 1 (List.map (irow .i64) v4))), (7, (1, .cells [.sh 900 1 (List.map en88 v5.f0), .sh 900 1 (List.map en90 v5.f1)])), (26, (1, .buf 1 (List.map (irow .i64) v6)))]⟩) ?_
    refine grs ?_
    refine gr_run ?_
    refine bind_e (fun v10 e10 => gr_call [(1000, (0, 900, 1))] (laws_markGraph_sv.con e10) ?_)
    clear e10
    refine gr_run ?_
    refine gr_done ?_
    refine bif_e (fun c4 => ?_) (fun c4 => ?_)
    ·refine go 6 ?_
     refine ret_e (fun hr_ => ?_)
     subst hr_
     exact ret_ Tryz.func9 []
    ·refine go 2 ?_
     refine grs ?_
     refine gr_run ?_
     refine bind_e (fun v11 e11 => gr_call [(1000, (0, 26, 1)), (1001, (0, 21, 1))] (laws_eqInt64S_bb.con e11) ?_)
     clear e11
     refine gr_run ?_
     refine gr_done ?_
     refine bif_e (fun c5 => ?_) (fun c5 => ?_)
     ·refine go 5 ?_
      refine grs ?_
      refine gr_run ?_
      refine bind_e (fun v12 e12 => gr_call [(1000, (0, 26, 1))] (laws_markInt64S_bv.con e12) ?_)
      clear e12
      refine gr_run ?_
      refine gr_done ?_
      refine go 3 ?_
      refine grs ?_
      refine gr_run ?_
      refine bind_e (fun v13 e13 => gr_call [(1000, (0, 26, 1))] (laws_heldInt64S_bv.con e13) ?_)
      clear e13
      refine gr_run ?_
      refine gr_done ?_
      refine bif_e (fun c6 => ?_) (fun c6 => ?_)
      ·refine go 6 ?_
       refine ret_e (fun hr_ => ?_)
       subst hr_
       exact ret_ Tryz.func9 []
      ·refine bif_e (fun c7 => ?_) (fun c7 => ?_)
       ·refine go 11 ?_
        refine grs ?_
        refine gr_run ?_
        refine bind_e (fun v14 e14 => gr_call [] (laws_toGraph.con e14) ?_)
        clear e14
        refine gr_run ?_
        refine bind_e (fun v15 e15 => gr_call [(2000, (1, 61, 1))] (impl_OutOf_O.con e15) ?_)
        clear e15
        refine gr_run ?_
        refine gr_done ?_
        refine go 2 ?_
        refine grs ?_
        refine gr_run ?_
        refine bind_e (fun v16 e16 => gr_call [(1000, (0, 61, 1)), (1001, (0, 21, 1))] (laws_eqInt64S_bb.con e16) ?_)
        clear e16
        refine gr_run ?_
        refine gr_done ?_
        refine bif_e (fun c8 => ?_) (fun c8 => ?_)
        ·refine go 5 ?_
         refine grs ?_
         refine gr_run ?_
         refine bind_e (fun v17 e17 => gr_call [(1000, (0, 26, 1))] (laws_heldInt64S_bv.con e17) ?_)
         clear e17
         refine gr_run ?_
         refine gr_done ?_
         refine bif_e (fun c9 => ?_) (fun c9 => ?_)
         ·refine go 6 ?_
          refine ret_e (fun hr_ => ?_)
          subst hr_
          exact ret_ Tryz.func9 []
         ·refine bif_e (fun c10 => ?_) (fun c10 => ?_)
          ·refine go 12 ?_
           refine ret_e (fun hr_ => ?_)
           subst hr_
           exact ret_ Tryz.func9 []
          ·refine go 11 ?_
           refine ret_e (fun hr_ => ?_)
           subst hr_
           exact ret_ Tryz.func9 []
        ·refine go 3 ?_
         refine ret_e (fun hr_ => ?_)
         subst hr_
         exact ret_ Tryz.func9 []
       ·refine go 11 ?_
        refine ret_e (fun hr_ => ?_)
        subst hr_
        exact ret_ Tryz.func9 []
     ·refine go 3 ?_
      refine ret_e (fun hr_ => ?_)
      subst hr_
      exact ret_ Tryz.func9 []
   ·refine go 3 ?_
    refine ret_e (fun hr_ => ?_)
    subst hr_
    exact ret_ Tryz.func9 []
  ·refine go 3 ?_
   refine ret_e (fun hr_ => ?_)
   subst hr_
   exact ret_ Tryz.func9 []
end Go.Ab

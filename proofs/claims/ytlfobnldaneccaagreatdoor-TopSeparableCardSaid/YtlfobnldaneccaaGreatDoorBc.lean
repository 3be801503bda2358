/- What these functions of the program compute, as functions in Lean, and the proofs that they do: beetle.Spread, beetle.Outline, beetle.Blocks, beetle.Idle. Conditions: the library's variables hold what their texts lay. -/
import Derived.Test.YtlfobnldaneccaaGreatDoorBb
namespace Go.Xm
open Go.RowKit
set_option linter.unusedVariables false
set_option linter.unusedSimpArgs false
set_option maxRecDepth 20000

/-! vitola/beetle.Spread -/
noncomputable def f13_C13 : Code := Proofs.Tryz.f13.body.getD .skip

def f13 (m : Nat) (a_Rows : Int) (a_Columns : Int) (a_Sick : List Int) (a_Frozen : List Int) : Option ((List Int) × Int) :=
  (f24 m a_Rows a_Columns a_Sick a_Frozen).bind fun r1 =>
    cond (r1.2.2.2.2.2.2 != 0) (
      some ([], r1.2.2.2.2.2.2)
    ) (
      (f36 m r1.1 r1.2.1 r1.2.2.1 r1.2.2.2.1 r1.2.2.2.2.1 r1.2.2.2.2.2.1).bind fun r2 =>
        (f37 m r2).bind fun r3 =>
          some (r3, 0)
    )

theorem f13_ok (m : Nat) (z0 : Nat) (y0 : Nat) (z1 : Nat) (y1 : Nat) (a_Rows : Int) (a_Columns : Int) (a_Sick : List Int) (a_Frozen : List Int) (o : (List Int) × Int) (h : f13 m a_Rows a_Columns a_Sick a_Frozen = some o) : KC E0 13 [.agg #[ii a_Rows, ii a_Columns, s0 0 a_Sick.length, s0 1 a_Frozen.length]] [(1, rc (encI .i64) a_Frozen z1 y1 1), (0, rc (encI .i64) a_Sick z0 y0 1)] 2 (fun v h' c' => v = .tuple #[s0 2 o.1.length, ii o.2] ∧ h' = [(2, rc (encI .i64) o.1 0 3 1)] ++ [(1, rc (encI .i64) a_Frozen z1 y1 1), (0, rc (encI .i64) a_Sick z0 y0 1)] ∧ c' = 3) := by
  refine KC.bodyN E0_ok (F := Proofs.Tryz.f13) (by kernel_rfl) (code := f13_C13) (by kernel_rfl) (nt := 20) (by kernel_rfl) (rs := [.tmp 2, .tmp 3]) (by kernel_rfl) (by kernel_rfl) (σ := [(0, .agg #[ii a_Rows, ii a_Columns, s0 0 a_Sick.length, s0 1 a_Frozen.length])]) (by kernel_rfl) ?_
  unfold f13 at h
  refine XQ.seq E0_ok (by kernel_rfl) ?_
  refine XQ.region (by kernel_rfl) ?_
  refine XR.runT E0_ok 1 3 [(1, pp 2 0)] [(2, .cells [ii a_Rows, ii a_Columns, s0 0 a_Sick.length, s0 1 a_Frozen.length] 0 29 0), (1, rc (encI .i64) a_Frozen z1 y1 1), (0, rc (encI .i64) a_Sick z0 y0 1)] 3 rfl (by kernel_rfl) ?_
  refine XR.done (by kernel_rfl) ?_
  show XQ _ _ _ _ _ _ _ _
  refine XQ.seq E0_ok (by kernel_rfl) ?_
  refine XQ.region (by kernel_rfl) ?_
  refine XR.runS E0_ok 1 1 [(8, .agg #[ii a_Rows, ii a_Columns, s0 0 a_Sick.length, s0 1 a_Frozen.length])] rfl (by kernel_rfl) ?_
  obtain ⟨r1, r1_h, h⟩ := bS h
  refine XR.call E0_ok [9] rfl (K := 24) (args := [.agg #[ii a_Rows, ii a_Columns, s0 0 a_Sick.length, s0 1 a_Frozen.length]]) (d := (some (path 12 9))) (by kernel_rfl) (KC.liftH (n0 := 2) (m := 1) (args0 := [.agg #[ii a_Rows, ii a_Columns, s0 0 a_Sick.length, s0 1 a_Frozen.length]]) (h0 := [(1, rc (encI .i64) a_Frozen (z1 + ((rowC (encI .i64) a_Frozen).length + 1)) y1 1), (0, rc (encI .i64) a_Sick (z0 + ((rowC (encI .i64) a_Sick).length + 1)) y0 1)]) (V := .tuple #[pp 2 0, .agg #[.int .u32 r1.2.2.2.2.1, .int .u32 r1.2.2.2.2.2.1], ii r1.2.2.2.2.2.2]) (V2 := .tuple #[pp 3 0, .agg #[.int .u32 r1.2.2.2.2.1, .int .u32 r1.2.2.2.2.2.1], ii r1.2.2.2.2.2.2]) (H := [(2, .cells ([ii r1.1, ii r1.2.1, ii r1.2.2.1] ++ rowC (encI .u32) r1.2.2.2.1) 0 72 0)]) (H2 := [(3, .cells ([ii r1.1, ii r1.2.1, ii r1.2.2.1] ++ rowC (encI .u32) r1.2.2.2.1) 0 72 0)]) [0, 1] [3, 4, 5, 2] (f24_ok m (z0 + ((rowC (encI .i64) a_Sick).length + 1)) y0 (z1 + ((rowC (encI .i64) a_Frozen).length + 1)) y1 a_Rows a_Columns a_Sick a_Frozen r1 r1_h) (by rfl) (by decide) rfl (by kernel_rfl) ⟨⟨_, _, rfl, rfl, .inl ⟨rfl, rowC_scal (encI_ok .i64) _⟩⟩, ⟨_, _, rfl, rfl, .inl ⟨rfl, rowC_scal (encI_ok .i64) _⟩⟩, trivial⟩ (by decide) (by decide) (by kernel_rfl) ⟨⟨_, _, rfl, rfl, .inl ⟨rfl, preC_scal rfl (rowC_scal (encI_ok .u32) _)⟩⟩, trivial⟩ (by rfl)) ?_
  rintro _ _ _ ⟨rfl, rfl, rfl⟩
  refine XR.conv (σ' := [(9, .tuple #[pp 3 0, .agg #[.int .u32 r1.2.2.2.2.1, .int .u32 r1.2.2.2.2.2.1], ii r1.2.2.2.2.2.2])]) (h' := [(3, .cells ([ii r1.1, ii r1.2.1, ii r1.2.2.1] ++ rowC (encI .u32) r1.2.2.2.1) 0 72 0), (2, .cells [ii a_Rows, ii a_Columns, s0 0 a_Sick.length, s0 1 a_Frozen.length] 0 29 0), (1, rc (encI .i64) a_Frozen z1 y1 1), (0, rc (encI .i64) a_Sick z0 y0 1)]) (c' := 4) ?_ (by kernel_rfl)
  refine XR.runT E0_ok 1 8 [(4, pp 3 0), (5, pp 4 0), (6, ii r1.2.2.2.2.2.2)] [(4, .cells [.int .u32 r1.2.2.2.2.1, .int .u32 r1.2.2.2.2.2.1] 0 63 0), (3, .cells ([ii r1.1, ii r1.2.1, ii r1.2.2.1] ++ rowC (encI .u32) r1.2.2.2.1) 0 72 0), (2, .cells [ii a_Rows, ii a_Columns, s0 0 a_Sick.length, s0 1 a_Frozen.length] 0 29 0), (1, rc (encI .i64) a_Frozen z1 y1 1), (0, rc (encI .i64) a_Sick z0 y0 1)] 5 rfl (by kernel_rfl) ?_
  refine XR.done (by kernel_rfl) ?_
  show XQ _ _ _ _ _ _ _ _
  refine XQ.seq E0_ok (by kernel_rfl) ?_
  refine XQ.seq E0_ok (by kernel_rfl) ?_
  refine XQ.region (by kernel_rfl) ?_
  refine XR.runS E0_ok 1 2 [(4, pp 3 0), (5, pp 4 0), (6, ii r1.2.2.2.2.2.2), (14, .bool (r1.2.2.2.2.2.2 != 0))] rfl (by kernel_rfl) ?_
  refine XR.done (by kernel_rfl) ?_
  show XQ _ _ _ _ _ _ _ _
  cases b1 : (r1.2.2.2.2.2.2 != 0 : Bool) with
  | true =>
    have h := cT b1 h
    refine XQ.cond (s := (.tmp 14)) (b := true) (by kernel_rfl) (by kernel_rfl) (fun _ => ?_) (fun q => by cases q)
    refine XQ.seq E0_ok (by kernel_rfl) ?_
    refine XQ.region (by kernel_rfl) ?_
    refine XR.runS E0_ok 1 3 [(2, .slice none 0 0), (3, ii r1.2.2.2.2.2.2)] rfl (by kernel_rfl) ?_
    refine XR.done (by kernel_rfl) ?_
    show XQ _ _ _ _ _ _ _ _
    refine XQ.ghost 3 1 rfl (σ' := [(2, s0 5 0), (3, ii r1.2.2.2.2.2.2)]) (h' := [(4, .cells [.int .u32 r1.2.2.2.2.1, .int .u32 r1.2.2.2.2.2.1] 0 63 0), (3, .cells ([ii r1.1, ii r1.2.1, ii r1.2.2.1] ++ rowC (encI .u32) r1.2.2.2.1) 0 72 0), (2, .cells [ii a_Rows, ii a_Columns, s0 0 a_Sick.length, s0 1 a_Frozen.length] 0 29 0), (1, rc (encI .i64) a_Frozen z1 y1 1), (0, rc (encI .i64) a_Sick z0 y0 1)]) ⟨by kernel_rfl, by kernel_rfl, trivial⟩ ⟨⟨_, rfl, .inl rfl⟩, ⟨_, rfl, .inl rfl⟩, ⟨_, rfl, .inl rfl⟩, ⟨_, rfl, .inl rfl⟩, ⟨_, rfl, .inl rfl⟩, trivial⟩ ?_
    refine XQ.conv (σ' := [(2, s0 5 0), (3, ii r1.2.2.2.2.2.2)]) (h' := [(5, rc (encI .i64) [] 0 3 1), (4, .cells [.int .u32 r1.2.2.2.2.1, .int .u32 r1.2.2.2.2.2.1] 0 63 0), (3, .cells ([ii r1.1, ii r1.2.1, ii r1.2.2.1] ++ rowC (encI .u32) r1.2.2.2.1) 0 72 0), (2, .cells [ii a_Rows, ii a_Columns, s0 0 a_Sick.length, s0 1 a_Frozen.length] 0 29 0), (1, rc (encI .i64) a_Frozen z1 y1 1), (0, rc (encI .i64) a_Sick z0 y0 1)]) (c' := 6) ?_ (by kernel_rfl)
    refine XQ.ren (σ' := [(2, s0 2 0), (3, ii r1.2.2.2.2.2.2)]) (h' := [(2, rc (encI .i64) [] 0 3 1), (1, rc (encI .i64) a_Frozen z1 y1 1), (0, rc (encI .i64) a_Sick z0 y0 1)]) (c' := 3) [0, 1, 5] (by decide) rfl ⟨by kernel_rfl, by kernel_rfl, trivial⟩ ⟨⟨_, _, rfl, rfl, .inl ⟨rfl, rowC_scal (encI_ok .i64) _⟩⟩, ⟨_, _, rfl, rfl, .inl ⟨rfl, rowC_scal (encI_ok .i64) _⟩⟩, ⟨_, _, rfl, rfl, .inl ⟨rfl, rowC_scal (encI_ok .i64) _⟩⟩, trivial⟩ rfl ?_
    refine XQ.ret (by kernel_rfl) ?_
    have h := Option.some.inj h
    subst h
    exact ⟨fun i q => (by cases q), .tuple #[s0 2 0, ii r1.2.2.2.2.2.2], (by kernel_rfl), (by kernel_rfl), (by kernel_rfl), rfl⟩
  | false =>
    have h := cF b1 h
    refine XQ.cond (s := (.tmp 14)) (b := false) (by kernel_rfl) (by kernel_rfl) (fun q => by cases q) (fun _ => ?_)
    refine XQ.skip (by kernel_rfl) ?_
    show XQ _ _ _ _ _ _ _ _
    refine XQ.seq E0_ok (by kernel_rfl) ?_
    refine XQ.region (by kernel_rfl) ?_
    refine XR.runS E0_ok 1 2 [(16, pp 3 0), (17, .agg #[.int .u32 r1.2.2.2.2.1, .int .u32 r1.2.2.2.2.2.1])] rfl (by kernel_rfl) ?_
    obtain ⟨r2, r2_h, h⟩ := bS h
    refine XR.call E0_ok [18] rfl (K := 36) (args := [pp 3 0, .agg #[.int .u32 r1.2.2.2.2.1, .int .u32 r1.2.2.2.2.2.1]]) (d := (some (path 12 18))) (by kernel_rfl) (KQ.call (KC.quiet E0_ok (args0 := [pp 0 0, .agg #[.int .u32 r1.2.2.2.2.1, .int .u32 r1.2.2.2.2.2.1]]) (h0 := [(0, .cells ([ii r1.1, ii r1.2.1, ii r1.2.2.1] ++ rowC (encI .u32) r1.2.2.2.1) (0 + (([ii r1.1, ii r1.2.1, ii r1.2.2.1] ++ rowC (encI .u32) r1.2.2.2.1).length + 1)) 72 0)]) (n := 1) (V := .int .u32 r2) [3] (f36_ok m (0 + (([ii r1.1, ii r1.2.1, ii r1.2.2.1] ++ rowC (encI .u32) r1.2.2.2.1).length + 1)) r1.1 r1.2.1 r1.2.2.1 r1.2.2.2.1 r1.2.2.2.2.1 r1.2.2.2.2.2.1 r2 r2_h) rfl (by rfl) (by decide) rfl (by kernel_rfl) ⟨⟨_, _, rfl, rfl, .inl ⟨rfl, preC_scal rfl (rowC_scal (encI_ok .u32) _)⟩⟩, trivial⟩) rfl) ?_
    rintro _ _ _ ⟨rfl, rfl, rfl⟩
    refine XR.conv (σ' := [(18, .int .u32 r2)]) (h' := [(4, .cells [.int .u32 r1.2.2.2.2.1, .int .u32 r1.2.2.2.2.2.1] 0 63 0), (3, .cells ([ii r1.1, ii r1.2.1, ii r1.2.2.1] ++ rowC (encI .u32) r1.2.2.2.1) 0 72 0), (2, .cells [ii a_Rows, ii a_Columns, s0 0 a_Sick.length, s0 1 a_Frozen.length] 0 29 0), (1, rc (encI .i64) a_Frozen z1 y1 1), (0, rc (encI .i64) a_Sick z0 y0 1)]) (c' := 5) ?_ (by kernel_rfl)
    obtain ⟨r3, r3_h, h⟩ := bS h
    refine XR.call E0_ok [19] rfl (K := 37) (args := [.int .u32 r2]) (d := (some (path 12 19))) (by kernel_rfl) (KC.lift (V2 := s0 5 r3.length) (H2 := [(5, rc (encI .i64) r3 0 3 1)]) [1, 2, 3, 4, 5, 0] (f37_ok m r2 r3 r3_h) rfl (by decide) (by decide) (by kernel_rfl) ⟨⟨_, _, rfl, rfl, .inl ⟨rfl, rowC_scal (encI_ok .i64) _⟩⟩, trivial⟩ (by rfl)) ?_
    rintro _ _ _ ⟨rfl, rfl, rfl⟩
    refine XR.conv (σ' := [(19, s0 5 r3.length)]) (h' := [(5, rc (encI .i64) r3 0 3 1), (4, .cells [.int .u32 r1.2.2.2.2.1, .int .u32 r1.2.2.2.2.2.1] 0 63 0), (3, .cells ([ii r1.1, ii r1.2.1, ii r1.2.2.1] ++ rowC (encI .u32) r1.2.2.2.1) 0 72 0), (2, .cells [ii a_Rows, ii a_Columns, s0 0 a_Sick.length, s0 1 a_Frozen.length] 0 29 0), (1, rc (encI .i64) a_Frozen z1 y1 1), (0, rc (encI .i64) a_Sick z0 y0 1)]) (c' := 6) ?_ (by kernel_rfl)
    refine XR.runS E0_ok 1 2 [(2, s0 5 r3.length), (3, ii 0)] rfl (by kernel_rfl) ?_
    refine XR.done (by kernel_rfl) ?_
    show XQ _ _ _ _ _ _ _ _
    refine XQ.ren (σ' := [(2, s0 2 r3.length), (3, ii 0)]) (h' := [(2, rc (encI .i64) r3 0 3 1), (1, rc (encI .i64) a_Frozen z1 y1 1), (0, rc (encI .i64) a_Sick z0 y0 1)]) (c' := 3) [0, 1, 5] (by decide) rfl ⟨by kernel_rfl, by kernel_rfl, trivial⟩ ⟨⟨_, _, rfl, rfl, .inl ⟨rfl, rowC_scal (encI_ok .i64) _⟩⟩, ⟨_, _, rfl, rfl, .inl ⟨rfl, rowC_scal (encI_ok .i64) _⟩⟩, ⟨_, _, rfl, rfl, .inl ⟨rfl, rowC_scal (encI_ok .i64) _⟩⟩, trivial⟩ rfl ?_
    refine XQ.ret (by kernel_rfl) ?_
    have h := Option.some.inj h
    subst h
    exact ⟨fun i q => (by cases q), .tuple #[s0 2 r3.length, ii 0], (by kernel_rfl), (by kernel_rfl), (by kernel_rfl), rfl⟩

/-! vitola/beetle.Outline -/
noncomputable def f14_C14 : Code := Proofs.Tryz.f14.body.getD .skip

def f14 (m : Nat) (a_Rows : Int) (a_Columns : Int) (a_Sick : List Int) (a_Frozen : List Int) : Option (Int × Int × Int) :=
  (f24 m a_Rows a_Columns a_Sick a_Frozen).bind fun r1 =>
    cond (r1.2.2.2.2.2.2 != 0) (
      some (0, 0, r1.2.2.2.2.2.2)
    ) (
      (f38 m r1.1 r1.2.1 r1.2.2.1 r1.2.2.2.1 r1.2.2.2.2.1).bind fun r2 =>
        (f36 m r1.1 r1.2.1 r1.2.2.1 r1.2.2.2.1 r1.2.2.2.2.1 r1.2.2.2.2.2.1).bind fun r3 =>
          (f38 m r1.1 r1.2.1 r1.2.2.1 r1.2.2.2.1 r3).bind fun r4 =>
            some (r2, r4, 0)
    )

theorem f14_ok (m : Nat) (z0 : Nat) (y0 : Nat) (z1 : Nat) (y1 : Nat) (a_Rows : Int) (a_Columns : Int) (a_Sick : List Int) (a_Frozen : List Int) (o : Int × Int × Int) (h : f14 m a_Rows a_Columns a_Sick a_Frozen = some o) : KC E0 14 [.agg #[ii a_Rows, ii a_Columns, s0 0 a_Sick.length, s0 1 a_Frozen.length]] [(1, rc (encI .i64) a_Frozen z1 y1 1), (0, rc (encI .i64) a_Sick z0 y0 1)] 2 (fun v _ _ => v = .tuple #[ii o.1, ii o.2.1, ii o.2.2]) := by
  refine KC.bodyN E0_ok (F := Proofs.Tryz.f14) (by kernel_rfl) (code := f14_C14) (by kernel_rfl) (nt := 25) (by kernel_rfl) (rs := [.tmp 2, .tmp 3, .tmp 4]) (by kernel_rfl) (by kernel_rfl) (σ := [(0, .agg #[ii a_Rows, ii a_Columns, s0 0 a_Sick.length, s0 1 a_Frozen.length])]) (by kernel_rfl) ?_
  unfold f14 at h
  refine XQ.seq E0_ok (by kernel_rfl) ?_
  refine XQ.region (by kernel_rfl) ?_
  refine XR.runT E0_ok 1 4 [(1, pp 2 0)] [(2, .cells [ii a_Rows, ii a_Columns, s0 0 a_Sick.length, s0 1 a_Frozen.length] 0 29 0), (1, rc (encI .i64) a_Frozen z1 y1 1), (0, rc (encI .i64) a_Sick z0 y0 1)] 3 rfl (by kernel_rfl) ?_
  refine XR.done (by kernel_rfl) ?_
  show XQ _ _ _ _ _ _ _ _
  refine XQ.seq E0_ok (by kernel_rfl) ?_
  refine XQ.region (by kernel_rfl) ?_
  refine XR.runS E0_ok 1 1 [(8, .agg #[ii a_Rows, ii a_Columns, s0 0 a_Sick.length, s0 1 a_Frozen.length])] rfl (by kernel_rfl) ?_
  obtain ⟨r1, r1_h, h⟩ := bS h
  refine XR.call E0_ok [9] rfl (K := 24) (args := [.agg #[ii a_Rows, ii a_Columns, s0 0 a_Sick.length, s0 1 a_Frozen.length]]) (d := (some (path 12 9))) (by kernel_rfl) (KC.liftH (n0 := 2) (m := 1) (args0 := [.agg #[ii a_Rows, ii a_Columns, s0 0 a_Sick.length, s0 1 a_Frozen.length]]) (h0 := [(1, rc (encI .i64) a_Frozen (z1 + ((rowC (encI .i64) a_Frozen).length + 1)) y1 1), (0, rc (encI .i64) a_Sick (z0 + ((rowC (encI .i64) a_Sick).length + 1)) y0 1)]) (V := .tuple #[pp 2 0, .agg #[.int .u32 r1.2.2.2.2.1, .int .u32 r1.2.2.2.2.2.1], ii r1.2.2.2.2.2.2]) (V2 := .tuple #[pp 3 0, .agg #[.int .u32 r1.2.2.2.2.1, .int .u32 r1.2.2.2.2.2.1], ii r1.2.2.2.2.2.2]) (H := [(2, .cells ([ii r1.1, ii r1.2.1, ii r1.2.2.1] ++ rowC (encI .u32) r1.2.2.2.1) 0 72 0)]) (H2 := [(3, .cells ([ii r1.1, ii r1.2.1, ii r1.2.2.1] ++ rowC (encI .u32) r1.2.2.2.1) 0 72 0)]) [0, 1] [3, 4, 5, 2] (f24_ok m (z0 + ((rowC (encI .i64) a_Sick).length + 1)) y0 (z1 + ((rowC (encI .i64) a_Frozen).length + 1)) y1 a_Rows a_Columns a_Sick a_Frozen r1 r1_h) (by rfl) (by decide) rfl (by kernel_rfl) ⟨⟨_, _, rfl, rfl, .inl ⟨rfl, rowC_scal (encI_ok .i64) _⟩⟩, ⟨_, _, rfl, rfl, .inl ⟨rfl, rowC_scal (encI_ok .i64) _⟩⟩, trivial⟩ (by decide) (by decide) (by kernel_rfl) ⟨⟨_, _, rfl, rfl, .inl ⟨rfl, preC_scal rfl (rowC_scal (encI_ok .u32) _)⟩⟩, trivial⟩ (by rfl)) ?_
  rintro _ _ _ ⟨rfl, rfl, rfl⟩
  refine XR.conv (σ' := [(9, .tuple #[pp 3 0, .agg #[.int .u32 r1.2.2.2.2.1, .int .u32 r1.2.2.2.2.2.1], ii r1.2.2.2.2.2.2])]) (h' := [(3, .cells ([ii r1.1, ii r1.2.1, ii r1.2.2.1] ++ rowC (encI .u32) r1.2.2.2.1) 0 72 0), (2, .cells [ii a_Rows, ii a_Columns, s0 0 a_Sick.length, s0 1 a_Frozen.length] 0 29 0), (1, rc (encI .i64) a_Frozen z1 y1 1), (0, rc (encI .i64) a_Sick z0 y0 1)]) (c' := 4) ?_ (by kernel_rfl)
  refine XR.runT E0_ok 1 8 [(4, ii r1.2.2.2.2.2.2), (5, pp 3 0), (6, pp 4 0)] [(4, .cells [.int .u32 r1.2.2.2.2.1, .int .u32 r1.2.2.2.2.2.1] 0 63 0), (3, .cells ([ii r1.1, ii r1.2.1, ii r1.2.2.1] ++ rowC (encI .u32) r1.2.2.2.1) 0 72 0), (2, .cells [ii a_Rows, ii a_Columns, s0 0 a_Sick.length, s0 1 a_Frozen.length] 0 29 0), (1, rc (encI .i64) a_Frozen z1 y1 1), (0, rc (encI .i64) a_Sick z0 y0 1)] 5 rfl (by kernel_rfl) ?_
  refine XR.done (by kernel_rfl) ?_
  show XQ _ _ _ _ _ _ _ _
  refine XQ.seq E0_ok (by kernel_rfl) ?_
  refine XQ.seq E0_ok (by kernel_rfl) ?_
  refine XQ.region (by kernel_rfl) ?_
  refine XR.runS E0_ok 1 2 [(4, ii r1.2.2.2.2.2.2), (5, pp 3 0), (6, pp 4 0), (14, .bool (r1.2.2.2.2.2.2 != 0))] rfl (by kernel_rfl) ?_
  refine XR.done (by kernel_rfl) ?_
  show XQ _ _ _ _ _ _ _ _
  cases b1 : (r1.2.2.2.2.2.2 != 0 : Bool) with
  | true =>
    have h := cT b1 h
    refine XQ.cond (s := (.tmp 14)) (b := true) (by kernel_rfl) (by kernel_rfl) (fun _ => ?_) (fun q => by cases q)
    refine XQ.seq E0_ok (by kernel_rfl) ?_
    refine XQ.region (by kernel_rfl) ?_
    refine XR.runS E0_ok 1 4 [(2, ii 0), (3, ii 0), (4, ii r1.2.2.2.2.2.2)] rfl (by kernel_rfl) ?_
    refine XR.done (by kernel_rfl) ?_
    show XQ _ _ _ _ _ _ _ _
    refine XQ.ret (by kernel_rfl) ?_
    have h := Option.some.inj h
    subst h
    exact ⟨fun i q => (by cases q), .tuple #[ii 0, ii 0, ii r1.2.2.2.2.2.2], (by kernel_rfl), rfl⟩
  | false =>
    have h := cF b1 h
    refine XQ.cond (s := (.tmp 14)) (b := false) (by kernel_rfl) (by kernel_rfl) (fun q => by cases q) (fun _ => ?_)
    refine XQ.skip (by kernel_rfl) ?_
    show XQ _ _ _ _ _ _ _ _
    refine XQ.seq E0_ok (by kernel_rfl) ?_
    refine XQ.quiet E0_ok (by kernel_rfl) (by kernel_rfl) ?_
    refine XU.run E0_ok 1 3 [5, 6, 16, 18] rfl (σ' := [(5, pp 3 0), (6, pp 4 0), (16, pp 3 0), (18, .int .u32 r1.2.2.2.2.1)]) (by kernel_rfl) ?_
    obtain ⟨r2, r2_h, h⟩ := bS h
    refine XU.callH E0_ok [5, 6, 19] rfl (K := 38) (args := [pp 3 0, .int .u32 r1.2.2.2.2.1]) (d := (some (path 12 19))) (V := ii r2) (by kernel_rfl) rfl (KC.quiet E0_ok (args0 := [pp 0 0, .int .u32 r1.2.2.2.2.1]) (h0 := [(0, .cells ([ii r1.1, ii r1.2.1, ii r1.2.2.1] ++ rowC (encI .u32) r1.2.2.2.1) (0 + (([ii r1.1, ii r1.2.1, ii r1.2.2.1] ++ rowC (encI .u32) r1.2.2.2.1).length + 1)) 72 0)]) (n := 1) (V := ii r2) [3] (f38_ok m (0 + (([ii r1.1, ii r1.2.1, ii r1.2.2.1] ++ rowC (encI .u32) r1.2.2.2.1).length + 1)) r1.1 r1.2.1 r1.2.2.1 r1.2.2.2.1 r1.2.2.2.2.1 r2 r2_h) rfl (by rfl) (by decide) rfl (by kernel_rfl) ⟨⟨_, _, rfl, rfl, .inl ⟨rfl, preC_scal rfl (rowC_scal (encI_ok .u32) _)⟩⟩, trivial⟩) (σ' := [(5, pp 3 0), (6, pp 4 0), (19, ii r2)]) (by kernel_rfl) ?_
    refine XU.run E0_ok 1 3 [19, 20, 21, 22] rfl (σ' := [(19, ii r2), (20, pp 3 0), (21, pp 3 0), (22, .agg #[.int .u32 r1.2.2.2.2.1, .int .u32 r1.2.2.2.2.2.1])]) (by kernel_rfl) ?_
    obtain ⟨r3, r3_h, h⟩ := bS h
    refine XU.callH E0_ok [19, 20, 23] rfl (K := 36) (args := [pp 3 0, .agg #[.int .u32 r1.2.2.2.2.1, .int .u32 r1.2.2.2.2.2.1]]) (d := (some (path 12 23))) (V := .int .u32 r3) (by kernel_rfl) rfl (KC.quiet E0_ok (args0 := [pp 0 0, .agg #[.int .u32 r1.2.2.2.2.1, .int .u32 r1.2.2.2.2.2.1]]) (h0 := [(0, .cells ([ii r1.1, ii r1.2.1, ii r1.2.2.1] ++ rowC (encI .u32) r1.2.2.2.1) (0 + (([ii r1.1, ii r1.2.1, ii r1.2.2.1] ++ rowC (encI .u32) r1.2.2.2.1).length + 1)) 72 0)]) (n := 1) (V := .int .u32 r3) [3] (f36_ok m (0 + (([ii r1.1, ii r1.2.1, ii r1.2.2.1] ++ rowC (encI .u32) r1.2.2.2.1).length + 1)) r1.1 r1.2.1 r1.2.2.1 r1.2.2.2.1 r1.2.2.2.2.1 r1.2.2.2.2.2.1 r3 r3_h) rfl (by rfl) (by decide) rfl (by kernel_rfl) ⟨⟨_, _, rfl, rfl, .inl ⟨rfl, preC_scal rfl (rowC_scal (encI_ok .u32) _)⟩⟩, trivial⟩) (σ' := [(19, ii r2), (20, pp 3 0), (23, .int .u32 r3)]) (by kernel_rfl) ?_
    obtain ⟨r4, r4_h, h⟩ := bS h
    refine XU.callH E0_ok [19, 24] rfl (K := 38) (args := [pp 3 0, .int .u32 r3]) (d := (some (path 12 24))) (V := ii r4) (by kernel_rfl) rfl (KC.quiet E0_ok (args0 := [pp 0 0, .int .u32 r3]) (h0 := [(0, .cells ([ii r1.1, ii r1.2.1, ii r1.2.2.1] ++ rowC (encI .u32) r1.2.2.2.1) (0 + (([ii r1.1, ii r1.2.1, ii r1.2.2.1] ++ rowC (encI .u32) r1.2.2.2.1).length + 1)) 72 0)]) (n := 1) (V := ii r4) [3] (f38_ok m (0 + (([ii r1.1, ii r1.2.1, ii r1.2.2.1] ++ rowC (encI .u32) r1.2.2.2.1).length + 1)) r1.1 r1.2.1 r1.2.2.1 r1.2.2.2.1 r3 r4 r4_h) rfl (by rfl) (by decide) rfl (by kernel_rfl) ⟨⟨_, _, rfl, rfl, .inl ⟨rfl, preC_scal rfl (rowC_scal (encI_ok .u32) _)⟩⟩, trivial⟩) (σ' := [(19, ii r2), (24, ii r4)]) (by kernel_rfl) ?_
    refine XU.run E0_ok 1 3 [2, 3, 4] rfl (σ' := [(2, ii r2), (3, ii r4), (4, ii 0)]) (by kernel_rfl) ?_
    refine XU.done (by kernel_rfl) ?_
    show XQ _ _ _ _ _ _ _ _
    refine XQ.ret (by kernel_rfl) ?_
    have h := Option.some.inj h
    subst h
    exact ⟨fun i q => (by cases q), .tuple #[ii r2, ii r4, ii 0], (by kernel_rfl), rfl⟩

/-! vitola/beetle.Blocks -/
noncomputable def f15_C15 : Code := Proofs.Tryz.f15.body.getD .skip
noncomputable def f15_L1 : Code := lft (lft (rgt (lft (rgt (rgt (rgt (rgt f15_C15)))))))
noncomputable def f15_L2 : Code := lft (lft (lft (rgt (rgt (rgt (lft (rgt f15_L1)))))))
noncomputable def f15_L3 : Code := lft (lft (lft (rgt (rgt (rgt (rgt (lft (rgt f15_L1))))))))
noncomputable def f15_L4 : Code := lft (lft (rgt (lft (rgt (rgt (rgt (rgt (rgt (lft (rgt f15_L1))))))))))
noncomputable def f15_L5 : Code := lft (lft (rgt (lft (lft (rgt f15_L4)))))

def f15_2 (m : Nat) : Nat → List Int → List Int → Int → Int → Int → Int → List Int → List (Int × Int × Int × Int) → Int → Int → Int → Int → Int → Int → Option (Int × Int × Int × Int × Int)
  | 0, _, _, _, _, _, _, _, _, _, _, _, _, _, _ => none
  | fuel + 1, a_Sick, a_Frozen, x8_1, xh2_0_1, xh2_1_1, xh2_2_1, lh2_1, lh3_1, x10_2, x11_2, xh4_0_2, xh4_1_2, xh4_2_2, xh4_3_2 =>
    cond (decide ((w64 (xh4_2_2 + 1)) < xh2_0_1)) (
      (f40 m x8_1 (w64 ((w64 ((w64 (xh4_2_2 + 1)) * xh2_1_1)) + x11_2))).bind fun r12 =>
        cond (r12) (
          f15_2 m fuel a_Sick a_Frozen x8_1 xh2_0_1 xh2_1_1 xh2_2_1 lh2_1 lh3_1 x10_2 x11_2 xh4_0_2 xh4_1_2 (w64 (xh4_2_2 + 1)) xh4_3_2
        ) (
          some (x10_2, xh4_0_2, xh4_1_2, xh4_2_2, xh4_3_2)
        )
    ) (
      some (x10_2, xh4_0_2, xh4_1_2, xh4_2_2, xh4_3_2)
    )

theorem f15_2_ok (m : Nat) : ∀ (fuel : Nat) (z0 : Nat) (y0 : Nat) (z1 : Nat) (y1 : Nat) (a_Sick : List Int) (a_Frozen : List Int) (x8_1 : Int) (xh2_0_1 : Int) (xh2_1_1 : Int) (xh2_2_1 : Int) (lh2_1 : List Int) (lh3_1 : List (Int × Int × Int × Int)) (x10_2 : Int) (x11_2 : Int) (xh4_0_2 : Int) (xh4_1_2 : Int) (xh4_2_2 : Int) (xh4_3_2 : Int) (o : (Int × Int × Int × Int × Int)), f15_2 m fuel a_Sick a_Frozen x8_1 xh2_0_1 xh2_1_1 xh2_2_1 lh2_1 lh3_1 x10_2 x11_2 xh4_0_2 xh4_1_2 xh4_2_2 xh4_3_2 = some o → ∀ Q : QP, Q (.exit 3) [(4, pp 2 0), (7, s0 3 lh3_1.length), (8, .int .u32 x8_1), (10, ii o.1), (12, pp 4 0)] [(4, .cells [ii o.2.1, ii o.2.2.1, ii o.2.2.2.1, ii o.2.2.2.2] 0 43 0), (3, rc encR lh3_1 0 43 4), (2, .cells ([ii xh2_0_1, ii xh2_1_1, ii xh2_2_1] ++ rowC (encI .u32) lh2_1) 0 72 0), (1, rc (encI .i64) a_Frozen z1 y1 1), (0, rc (encI .i64) a_Sick z0 y0 1)] 5 → XL E0 137 2 fuel f15_L2 [(4, pp 2 0), (7, s0 3 lh3_1.length), (8, .int .u32 x8_1), (10, ii x10_2), (11, ii x11_2), (12, pp 4 0)] [(4, .cells [ii xh4_0_2, ii xh4_1_2, ii xh4_2_2, ii xh4_3_2] 0 43 0), (3, rc encR lh3_1 0 43 4), (2, .cells ([ii xh2_0_1, ii xh2_1_1, ii xh2_2_1] ++ rowC (encI .u32) lh2_1) 0 72 0), (1, rc (encI .i64) a_Frozen z1 y1 1), (0, rc (encI .i64) a_Sick z0 y0 1)] 5 Q
  | 0, z0, y0, z1, y1, a_Sick, a_Frozen, x8_1, xh2_0_1, xh2_1_1, xh2_2_1, lh2_1, lh3_1, x10_2, x11_2, xh4_0_2, xh4_1_2, xh4_2_2, xh4_3_2, o, h, Q, hQ => by cases h
  | fuel + 1, z0, y0, z1, y1, a_Sick, a_Frozen, x8_1, xh2_0_1, xh2_1_1, xh2_2_1, lh2_1, lh3_1, x10_2, x11_2, xh4_0_2, xh4_1_2, xh4_2_2, xh4_3_2, o, h, Q, hQ => by
    unfold f15_2 at h
    refine XL.succ E0_ok ?_
    refine XQ.seq E0_ok (by kernel_rfl) ?_
    refine XQ.seq E0_ok (by kernel_rfl) ?_
    refine XQ.quiet E0_ok (by kernel_rfl) (by kernel_rfl) ?_
    refine XU.run E0_ok 1 9 [4, 7, 8, 10, 11, 12, 61] rfl (σ' := [(4, pp 2 0), (7, s0 3 lh3_1.length), (8, .int .u32 x8_1), (10, ii x10_2), (11, ii x11_2), (12, pp 4 0), (61, .bool (decide ((w64 (xh4_2_2 + 1)) < xh2_0_1)))]) (by kernel_rfl) ?_
    cases b1 : (decide ((w64 (xh4_2_2 + 1)) < xh2_0_1) : Bool) with
    | true =>
      have h := cT b1 h
      refine XU.run E0_ok 1 11 [4, 7, 8, 10, 11, 12, 61, 62, 72] rfl (σ' := [(4, pp 2 0), (7, s0 3 lh3_1.length), (8, .int .u32 x8_1), (10, ii x10_2), (11, ii x11_2), (12, pp 4 0), (61, .bool true), (62, .int .u32 x8_1), (72, ii (w64 ((w64 ((w64 (xh4_2_2 + 1)) * xh2_1_1)) + x11_2)))]) (by kernel_rfl) ?_
      obtain ⟨r12, r12_h, h⟩ := bS h
      refine XU.call E0_ok [4, 7, 8, 10, 11, 12, 61, 73] rfl (K := 40) (F := Proofs.Tryz.f40) (args := [.int .u32 x8_1, ii (w64 ((w64 ((w64 (xh4_2_2 + 1)) * xh2_1_1)) + x11_2))]) (d := (some (path 12 73))) (v := .bool r12) (by kernel_rfl) (by kernel_rfl) rfl rfl (fun w hI => f40_ok m x8_1 (w64 ((w64 ((w64 (xh4_2_2 + 1)) * xh2_1_1)) + x11_2)) r12 r12_h w hI) (σ' := [(4, pp 2 0), (7, s0 3 lh3_1.length), (8, .int .u32 x8_1), (10, ii x10_2), (11, ii x11_2), (12, pp 4 0), (61, .bool true), (73, .bool r12)]) (by kernel_rfl) ?_
      refine XU.run E0_ok 1 1 [4, 7, 8, 10, 11, 12, 74] rfl (σ' := [(4, pp 2 0), (7, s0 3 lh3_1.length), (8, .int .u32 x8_1), (10, ii x10_2), (11, ii x11_2), (12, pp 4 0), (74, .bool r12)]) (by kernel_rfl) ?_
      refine XU.done (by kernel_rfl) ?_
      show XQ _ _ _ _ _ _ _ _
      cases b2 : (r12 : Bool) with
      | true =>
        have h := cT b2 h
        refine XQ.cond (s := (.tmp 74)) (b := true) (by kernel_rfl) (by kernel_rfl) (fun _ => ?_) (fun q => by cases q)
        refine XQ.skip (by kernel_rfl) ?_
        show XQ _ _ _ _ _ _ _ _
        refine XQ.block (id := 4) (by kernel_rfl) ?_
        refine XQ.region (by kernel_rfl) ?_
        refine XR.runT E0_ok 1 5 [(4, pp 2 0), (7, s0 3 lh3_1.length), (8, .int .u32 x8_1), (10, ii x10_2), (11, ii x11_2), (12, pp 4 0)] [(4, .cells [ii xh4_0_2, ii xh4_1_2, ii (w64 (xh4_2_2 + 1)), ii xh4_3_2] 0 43 0), (3, rc encR lh3_1 0 43 4), (2, .cells ([ii xh2_0_1, ii xh2_1_1, ii xh2_2_1] ++ rowC (encI .u32) lh2_1) 0 72 0), (1, rc (encI .i64) a_Frozen z1 y1 1), (0, rc (encI .i64) a_Sick z0 y0 1)] 5 rfl (by kernel_rfl) ?_
        refine XR.done (by kernel_rfl) ?_
        show XL _ _ _ _ _ _ _ _ _
        refine XL.ren (σ' := [(4, pp 2 0), (7, s0 3 lh3_1.length), (8, .int .u32 x8_1), (10, ii x10_2), (11, ii x11_2), (12, pp 4 0)]) (h' := [(4, .cells [ii xh4_0_2, ii xh4_1_2, ii (w64 (xh4_2_2 + 1)), ii xh4_3_2] 0 43 0), (3, rc encR lh3_1 0 43 4), (2, .cells ([ii xh2_0_1, ii xh2_1_1, ii xh2_2_1] ++ rowC (encI .u32) lh2_1) 0 72 0), (1, rc (encI .i64) a_Frozen z1 y1 1), (0, rc (encI .i64) a_Sick z0 y0 1)]) (c' := 5) [0, 1, 2, 3, 4] (by decide) rfl ⟨by kernel_rfl, by kernel_rfl, by kernel_rfl, by kernel_rfl, by kernel_rfl, by kernel_rfl, trivial⟩ ⟨⟨_, _, rfl, rfl, .inr ⟨_, _, _, _, rfl, rfl⟩⟩, ⟨_, _, rfl, rfl, .inl ⟨rfl, rowC_scal encR_ok _⟩⟩, ⟨_, _, rfl, rfl, .inl ⟨rfl, preC_scal rfl (rowC_scal (encI_ok .u32) _)⟩⟩, ⟨_, _, rfl, rfl, .inl ⟨rfl, rowC_scal (encI_ok .i64) _⟩⟩, ⟨_, _, rfl, rfl, .inl ⟨rfl, rowC_scal (encI_ok .i64) _⟩⟩, trivial⟩ rfl ?_
        refine XL.conv (f15_2_ok m fuel z0 y0 z1 y1 a_Sick a_Frozen x8_1 xh2_0_1 xh2_1_1 xh2_2_1 lh2_1 lh3_1 x10_2 x11_2 xh4_0_2 xh4_1_2 (w64 (xh4_2_2 + 1)) xh4_3_2 o h Q hQ) (by first | with_reducible rfl | simp | rfl)
      | false =>
        have h := cF b2 h
        refine XQ.cond (s := (.tmp 74)) (b := false) (by kernel_rfl) (by kernel_rfl) (fun q => by cases q) (fun _ => ?_)
        refine XQ.ren (σ' := [(4, pp 2 0), (7, s0 3 lh3_1.length), (8, .int .u32 x8_1), (10, ii x10_2), (12, pp 4 0)]) (h' := [(4, .cells [ii xh4_0_2, ii xh4_1_2, ii xh4_2_2, ii xh4_3_2] 0 43 0), (3, rc encR lh3_1 0 43 4), (2, .cells ([ii xh2_0_1, ii xh2_1_1, ii xh2_2_1] ++ rowC (encI .u32) lh2_1) 0 72 0), (1, rc (encI .i64) a_Frozen z1 y1 1), (0, rc (encI .i64) a_Sick z0 y0 1)]) (c' := 5) [0, 1, 2, 3, 4] (by decide) rfl ⟨by kernel_rfl, by kernel_rfl, by kernel_rfl, by kernel_rfl, by kernel_rfl, trivial⟩ ⟨⟨_, _, rfl, rfl, .inr ⟨_, _, _, _, rfl, rfl⟩⟩, ⟨_, _, rfl, rfl, .inl ⟨rfl, rowC_scal encR_ok _⟩⟩, ⟨_, _, rfl, rfl, .inl ⟨rfl, preC_scal rfl (rowC_scal (encI_ok .u32) _)⟩⟩, ⟨_, _, rfl, rfl, .inl ⟨rfl, rowC_scal (encI_ok .i64) _⟩⟩, ⟨_, _, rfl, rfl, .inl ⟨rfl, rowC_scal (encI_ok .i64) _⟩⟩, trivial⟩ rfl ?_
        refine XQ.exit (i := 3) (by kernel_rfl) ?_
        cases h
        exact hQ
    | false =>
      have h := cF b1 h
      refine XU.run E0_ok 1 13 [4, 7, 8, 10, 11, 12, 74] rfl (σ' := [(4, pp 2 0), (7, s0 3 lh3_1.length), (8, .int .u32 x8_1), (10, ii x10_2), (11, ii x11_2), (12, pp 4 0), (74, .bool false)]) (by kernel_rfl) ?_
      refine XU.done (by kernel_rfl) ?_
      show XQ _ _ _ _ _ _ _ _
      refine XQ.cond (s := (.tmp 74)) (b := false) (by kernel_rfl) (by kernel_rfl) (fun q => by cases q) (fun _ => ?_)
      refine XQ.ren (σ' := [(4, pp 2 0), (7, s0 3 lh3_1.length), (8, .int .u32 x8_1), (10, ii x10_2), (12, pp 4 0)]) (h' := [(4, .cells [ii xh4_0_2, ii xh4_1_2, ii xh4_2_2, ii xh4_3_2] 0 43 0), (3, rc encR lh3_1 0 43 4), (2, .cells ([ii xh2_0_1, ii xh2_1_1, ii xh2_2_1] ++ rowC (encI .u32) lh2_1) 0 72 0), (1, rc (encI .i64) a_Frozen z1 y1 1), (0, rc (encI .i64) a_Sick z0 y0 1)]) (c' := 5) [0, 1, 2, 3, 4] (by decide) rfl ⟨by kernel_rfl, by kernel_rfl, by kernel_rfl, by kernel_rfl, by kernel_rfl, trivial⟩ ⟨⟨_, _, rfl, rfl, .inr ⟨_, _, _, _, rfl, rfl⟩⟩, ⟨_, _, rfl, rfl, .inl ⟨rfl, rowC_scal encR_ok _⟩⟩, ⟨_, _, rfl, rfl, .inl ⟨rfl, preC_scal rfl (rowC_scal (encI_ok .u32) _)⟩⟩, ⟨_, _, rfl, rfl, .inl ⟨rfl, rowC_scal (encI_ok .i64) _⟩⟩, ⟨_, _, rfl, rfl, .inl ⟨rfl, rowC_scal (encI_ok .i64) _⟩⟩, trivial⟩ rfl ?_
      refine XQ.exit (i := 3) (by kernel_rfl) ?_
      cases h
      exact hQ

def f15_3 (m : Nat) : Nat → List Int → List Int → Int → Int → Int → Int → List Int → List (Int × Int × Int × Int) → Int → Int → Int → Int → Int → Option (Int × Int × Int × Int)
  | 0, _, _, _, _, _, _, _, _, _, _, _, _, _ => none
  | fuel + 1, a_Sick, a_Frozen, x8_1, xh2_0_1, xh2_1_1, xh2_2_1, lh2_1, lh3_1, x10_3, xh4_0_3, xh4_1_3, xh4_2_3, xh4_3_3 =>
    cond (decide ((w64 (xh4_3_3 + 1)) < xh2_1_1)) (
      (f40 m x8_1 (w64 ((w64 ((w64 (x10_3 * xh2_1_1)) + xh4_3_3)) + 1))).bind fun r14 =>
        cond (r14) (
          f15_3 m fuel a_Sick a_Frozen x8_1 xh2_0_1 xh2_1_1 xh2_2_1 lh2_1 lh3_1 x10_3 xh4_0_3 xh4_1_3 xh4_2_3 (w64 (xh4_3_3 + 1))
        ) (
          some (xh4_0_3, xh4_1_3, xh4_2_3, xh4_3_3)
        )
    ) (
      some (xh4_0_3, xh4_1_3, xh4_2_3, xh4_3_3)
    )

theorem f15_3_ok (m : Nat) : ∀ (fuel : Nat) (z0 : Nat) (y0 : Nat) (z1 : Nat) (y1 : Nat) (a_Sick : List Int) (a_Frozen : List Int) (x8_1 : Int) (xh2_0_1 : Int) (xh2_1_1 : Int) (xh2_2_1 : Int) (lh2_1 : List Int) (lh3_1 : List (Int × Int × Int × Int)) (x10_3 : Int) (xh4_0_3 : Int) (xh4_1_3 : Int) (xh4_2_3 : Int) (xh4_3_3 : Int) (o : (Int × Int × Int × Int)), f15_3 m fuel a_Sick a_Frozen x8_1 xh2_0_1 xh2_1_1 xh2_2_1 lh2_1 lh3_1 x10_3 xh4_0_3 xh4_1_3 xh4_2_3 xh4_3_3 = some o → ∀ Q : QP, Q (.exit 5) [(4, pp 2 0), (7, s0 3 lh3_1.length), (8, .int .u32 x8_1), (12, pp 4 0)] [(4, .cells [ii o.1, ii o.2.1, ii o.2.2.1, ii o.2.2.2] 0 43 0), (3, rc encR lh3_1 0 43 4), (2, .cells ([ii xh2_0_1, ii xh2_1_1, ii xh2_2_1] ++ rowC (encI .u32) lh2_1) 0 72 0), (1, rc (encI .i64) a_Frozen z1 y1 1), (0, rc (encI .i64) a_Sick z0 y0 1)] 5 → XL E0 137 2 fuel f15_L3 [(4, pp 2 0), (7, s0 3 lh3_1.length), (8, .int .u32 x8_1), (10, ii x10_3), (12, pp 4 0)] [(4, .cells [ii xh4_0_3, ii xh4_1_3, ii xh4_2_3, ii xh4_3_3] 0 43 0), (3, rc encR lh3_1 0 43 4), (2, .cells ([ii xh2_0_1, ii xh2_1_1, ii xh2_2_1] ++ rowC (encI .u32) lh2_1) 0 72 0), (1, rc (encI .i64) a_Frozen z1 y1 1), (0, rc (encI .i64) a_Sick z0 y0 1)] 5 Q
  | 0, z0, y0, z1, y1, a_Sick, a_Frozen, x8_1, xh2_0_1, xh2_1_1, xh2_2_1, lh2_1, lh3_1, x10_3, xh4_0_3, xh4_1_3, xh4_2_3, xh4_3_3, o, h, Q, hQ => by cases h
  | fuel + 1, z0, y0, z1, y1, a_Sick, a_Frozen, x8_1, xh2_0_1, xh2_1_1, xh2_2_1, lh2_1, lh3_1, x10_3, xh4_0_3, xh4_1_3, xh4_2_3, xh4_3_3, o, h, Q, hQ => by
    unfold f15_3 at h
    refine XL.succ E0_ok ?_
    refine XQ.seq E0_ok (by kernel_rfl) ?_
    refine XQ.seq E0_ok (by kernel_rfl) ?_
    refine XQ.quiet E0_ok (by kernel_rfl) (by kernel_rfl) ?_
    refine XU.run E0_ok 1 9 [4, 7, 8, 10, 12, 87] rfl (σ' := [(4, pp 2 0), (7, s0 3 lh3_1.length), (8, .int .u32 x8_1), (10, ii x10_3), (12, pp 4 0), (87, .bool (decide ((w64 (xh4_3_3 + 1)) < xh2_1_1)))]) (by kernel_rfl) ?_
    cases b1 : (decide ((w64 (xh4_3_3 + 1)) < xh2_1_1) : Bool) with
    | true =>
      have h := cT b1 h
      refine XU.run E0_ok 1 11 [4, 7, 8, 10, 12, 87, 88, 98] rfl (σ' := [(4, pp 2 0), (7, s0 3 lh3_1.length), (8, .int .u32 x8_1), (10, ii x10_3), (12, pp 4 0), (87, .bool true), (88, .int .u32 x8_1), (98, ii (w64 ((w64 ((w64 (x10_3 * xh2_1_1)) + xh4_3_3)) + 1)))]) (by kernel_rfl) ?_
      obtain ⟨r14, r14_h, h⟩ := bS h
      refine XU.call E0_ok [4, 7, 8, 10, 12, 87, 99] rfl (K := 40) (F := Proofs.Tryz.f40) (args := [.int .u32 x8_1, ii (w64 ((w64 ((w64 (x10_3 * xh2_1_1)) + xh4_3_3)) + 1))]) (d := (some (path 12 99))) (v := .bool r14) (by kernel_rfl) (by kernel_rfl) rfl rfl (fun w hI => f40_ok m x8_1 (w64 ((w64 ((w64 (x10_3 * xh2_1_1)) + xh4_3_3)) + 1)) r14 r14_h w hI) (σ' := [(4, pp 2 0), (7, s0 3 lh3_1.length), (8, .int .u32 x8_1), (10, ii x10_3), (12, pp 4 0), (87, .bool true), (99, .bool r14)]) (by kernel_rfl) ?_
      refine XU.run E0_ok 1 1 [4, 7, 8, 10, 12, 100] rfl (σ' := [(4, pp 2 0), (7, s0 3 lh3_1.length), (8, .int .u32 x8_1), (10, ii x10_3), (12, pp 4 0), (100, .bool r14)]) (by kernel_rfl) ?_
      refine XU.done (by kernel_rfl) ?_
      show XQ _ _ _ _ _ _ _ _
      cases b2 : (r14 : Bool) with
      | true =>
        have h := cT b2 h
        refine XQ.cond (s := (.tmp 100)) (b := true) (by kernel_rfl) (by kernel_rfl) (fun _ => ?_) (fun q => by cases q)
        refine XQ.skip (by kernel_rfl) ?_
        show XQ _ _ _ _ _ _ _ _
        refine XQ.block (id := 6) (by kernel_rfl) ?_
        refine XQ.region (by kernel_rfl) ?_
        refine XR.runT E0_ok 1 5 [(4, pp 2 0), (7, s0 3 lh3_1.length), (8, .int .u32 x8_1), (10, ii x10_3), (12, pp 4 0)] [(4, .cells [ii xh4_0_3, ii xh4_1_3, ii xh4_2_3, ii (w64 (xh4_3_3 + 1))] 0 43 0), (3, rc encR lh3_1 0 43 4), (2, .cells ([ii xh2_0_1, ii xh2_1_1, ii xh2_2_1] ++ rowC (encI .u32) lh2_1) 0 72 0), (1, rc (encI .i64) a_Frozen z1 y1 1), (0, rc (encI .i64) a_Sick z0 y0 1)] 5 rfl (by kernel_rfl) ?_
        refine XR.done (by kernel_rfl) ?_
        show XL _ _ _ _ _ _ _ _ _
        refine XL.ren (σ' := [(4, pp 2 0), (7, s0 3 lh3_1.length), (8, .int .u32 x8_1), (10, ii x10_3), (12, pp 4 0)]) (h' := [(4, .cells [ii xh4_0_3, ii xh4_1_3, ii xh4_2_3, ii (w64 (xh4_3_3 + 1))] 0 43 0), (3, rc encR lh3_1 0 43 4), (2, .cells ([ii xh2_0_1, ii xh2_1_1, ii xh2_2_1] ++ rowC (encI .u32) lh2_1) 0 72 0), (1, rc (encI .i64) a_Frozen z1 y1 1), (0, rc (encI .i64) a_Sick z0 y0 1)]) (c' := 5) [0, 1, 2, 3, 4] (by decide) rfl ⟨by kernel_rfl, by kernel_rfl, by kernel_rfl, by kernel_rfl, by kernel_rfl, trivial⟩ ⟨⟨_, _, rfl, rfl, .inr ⟨_, _, _, _, rfl, rfl⟩⟩, ⟨_, _, rfl, rfl, .inl ⟨rfl, rowC_scal encR_ok _⟩⟩, ⟨_, _, rfl, rfl, .inl ⟨rfl, preC_scal rfl (rowC_scal (encI_ok .u32) _)⟩⟩, ⟨_, _, rfl, rfl, .inl ⟨rfl, rowC_scal (encI_ok .i64) _⟩⟩, ⟨_, _, rfl, rfl, .inl ⟨rfl, rowC_scal (encI_ok .i64) _⟩⟩, trivial⟩ rfl ?_
        refine XL.conv (f15_3_ok m fuel z0 y0 z1 y1 a_Sick a_Frozen x8_1 xh2_0_1 xh2_1_1 xh2_2_1 lh2_1 lh3_1 x10_3 xh4_0_3 xh4_1_3 xh4_2_3 (w64 (xh4_3_3 + 1)) o h Q hQ) (by first | with_reducible rfl | simp | rfl)
      | false =>
        have h := cF b2 h
        refine XQ.cond (s := (.tmp 100)) (b := false) (by kernel_rfl) (by kernel_rfl) (fun q => by cases q) (fun _ => ?_)
        refine XQ.ren (σ' := [(4, pp 2 0), (7, s0 3 lh3_1.length), (8, .int .u32 x8_1), (12, pp 4 0)]) (h' := [(4, .cells [ii xh4_0_3, ii xh4_1_3, ii xh4_2_3, ii xh4_3_3] 0 43 0), (3, rc encR lh3_1 0 43 4), (2, .cells ([ii xh2_0_1, ii xh2_1_1, ii xh2_2_1] ++ rowC (encI .u32) lh2_1) 0 72 0), (1, rc (encI .i64) a_Frozen z1 y1 1), (0, rc (encI .i64) a_Sick z0 y0 1)]) (c' := 5) [0, 1, 2, 3, 4] (by decide) rfl ⟨by kernel_rfl, by kernel_rfl, by kernel_rfl, by kernel_rfl, trivial⟩ ⟨⟨_, _, rfl, rfl, .inr ⟨_, _, _, _, rfl, rfl⟩⟩, ⟨_, _, rfl, rfl, .inl ⟨rfl, rowC_scal encR_ok _⟩⟩, ⟨_, _, rfl, rfl, .inl ⟨rfl, preC_scal rfl (rowC_scal (encI_ok .u32) _)⟩⟩, ⟨_, _, rfl, rfl, .inl ⟨rfl, rowC_scal (encI_ok .i64) _⟩⟩, ⟨_, _, rfl, rfl, .inl ⟨rfl, rowC_scal (encI_ok .i64) _⟩⟩, trivial⟩ rfl ?_
        refine XQ.exit (i := 5) (by kernel_rfl) ?_
        cases h
        exact hQ
    | false =>
      have h := cF b1 h
      refine XU.run E0_ok 1 13 [4, 7, 8, 10, 12, 100] rfl (σ' := [(4, pp 2 0), (7, s0 3 lh3_1.length), (8, .int .u32 x8_1), (10, ii x10_3), (12, pp 4 0), (100, .bool false)]) (by kernel_rfl) ?_
      refine XU.done (by kernel_rfl) ?_
      show XQ _ _ _ _ _ _ _ _
      refine XQ.cond (s := (.tmp 100)) (b := false) (by kernel_rfl) (by kernel_rfl) (fun q => by cases q) (fun _ => ?_)
      refine XQ.ren (σ' := [(4, pp 2 0), (7, s0 3 lh3_1.length), (8, .int .u32 x8_1), (12, pp 4 0)]) (h' := [(4, .cells [ii xh4_0_3, ii xh4_1_3, ii xh4_2_3, ii xh4_3_3] 0 43 0), (3, rc encR lh3_1 0 43 4), (2, .cells ([ii xh2_0_1, ii xh2_1_1, ii xh2_2_1] ++ rowC (encI .u32) lh2_1) 0 72 0), (1, rc (encI .i64) a_Frozen z1 y1 1), (0, rc (encI .i64) a_Sick z0 y0 1)]) (c' := 5) [0, 1, 2, 3, 4] (by decide) rfl ⟨by kernel_rfl, by kernel_rfl, by kernel_rfl, by kernel_rfl, trivial⟩ ⟨⟨_, _, rfl, rfl, .inr ⟨_, _, _, _, rfl, rfl⟩⟩, ⟨_, _, rfl, rfl, .inl ⟨rfl, rowC_scal encR_ok _⟩⟩, ⟨_, _, rfl, rfl, .inl ⟨rfl, preC_scal rfl (rowC_scal (encI_ok .u32) _)⟩⟩, ⟨_, _, rfl, rfl, .inl ⟨rfl, rowC_scal (encI_ok .i64) _⟩⟩, ⟨_, _, rfl, rfl, .inl ⟨rfl, rowC_scal (encI_ok .i64) _⟩⟩, trivial⟩ rfl ?_
      refine XQ.exit (i := 5) (by kernel_rfl) ?_
      cases h
      exact hQ

def f15_5 (m : Nat) : Nat → List Int → List Int → Int → Int → Int → List Int → List (Int × Int × Int × Int) → Int → Int → Int → Int → Int → Int → Int → Option Int
  | 0, _, _, _, _, _, _, _, _, _, _, _, _, _, _ => none
  | fuel + 1, a_Sick, a_Frozen, xh2_0_1, xh2_1_1, xh2_2_1, lh2_1, lh3_1, x13_4, xh4_0_4, xh4_1_4, xh4_2_4, xh4_3_4, x8_5, x14_5 =>
    cond (decide (x14_5 ≤ xh4_3_4)) (
      cond (decide (0 ≤ w64 ((w64 (x13_4 * xh2_1_1)) + x14_5))) (
        f15_5 m fuel a_Sick a_Frozen xh2_0_1 xh2_1_1 xh2_2_1 lh2_1 lh3_1 x13_4 xh4_0_4 xh4_1_4 xh4_2_4 xh4_3_4 (andNotV .u32 x8_5 (shV true .u32 1 (w64 ((w64 (x13_4 * xh2_1_1)) + x14_5)))) (w64 (x14_5 + 1))
      ) none
    ) (
      some (x8_5)
    )

theorem f15_5_ok (m : Nat) : ∀ (fuel : Nat) (z0 : Nat) (y0 : Nat) (z1 : Nat) (y1 : Nat) (a_Sick : List Int) (a_Frozen : List Int) (xh2_0_1 : Int) (xh2_1_1 : Int) (xh2_2_1 : Int) (lh2_1 : List Int) (lh3_1 : List (Int × Int × Int × Int)) (x13_4 : Int) (xh4_0_4 : Int) (xh4_1_4 : Int) (xh4_2_4 : Int) (xh4_3_4 : Int) (x8_5 : Int) (x14_5 : Int) (o : Int), f15_5 m fuel a_Sick a_Frozen xh2_0_1 xh2_1_1 xh2_2_1 lh2_1 lh3_1 x13_4 xh4_0_4 xh4_1_4 xh4_2_4 xh4_3_4 x8_5 x14_5 = some o → ∀ Q : QP, Q (.exit 9) [(4, pp 2 0), (7, s0 3 lh3_1.length), (8, .int .u32 o), (12, pp 4 0), (13, ii x13_4)] [(4, .cells [ii xh4_0_4, ii xh4_1_4, ii xh4_2_4, ii xh4_3_4] 0 43 0), (3, rc encR lh3_1 0 43 4), (2, .cells ([ii xh2_0_1, ii xh2_1_1, ii xh2_2_1] ++ rowC (encI .u32) lh2_1) 0 72 0), (1, rc (encI .i64) a_Frozen z1 y1 1), (0, rc (encI .i64) a_Sick z0 y0 1)] 5 → XL E0 137 2 fuel f15_L5 [(4, pp 2 0), (7, s0 3 lh3_1.length), (8, .int .u32 x8_5), (12, pp 4 0), (13, ii x13_4), (14, ii x14_5)] [(4, .cells [ii xh4_0_4, ii xh4_1_4, ii xh4_2_4, ii xh4_3_4] 0 43 0), (3, rc encR lh3_1 0 43 4), (2, .cells ([ii xh2_0_1, ii xh2_1_1, ii xh2_2_1] ++ rowC (encI .u32) lh2_1) 0 72 0), (1, rc (encI .i64) a_Frozen z1 y1 1), (0, rc (encI .i64) a_Sick z0 y0 1)] 5 Q
  | 0, z0, y0, z1, y1, a_Sick, a_Frozen, xh2_0_1, xh2_1_1, xh2_2_1, lh2_1, lh3_1, x13_4, xh4_0_4, xh4_1_4, xh4_2_4, xh4_3_4, x8_5, x14_5, o, h, Q, hQ => by cases h
  | fuel + 1, z0, y0, z1, y1, a_Sick, a_Frozen, xh2_0_1, xh2_1_1, xh2_2_1, lh2_1, lh3_1, x13_4, xh4_0_4, xh4_1_4, xh4_2_4, xh4_3_4, x8_5, x14_5, o, h, Q, hQ => by
    unfold f15_5 at h
    refine XL.succ E0_ok ?_
    refine XQ.seq E0_ok (by kernel_rfl) ?_
    refine XQ.seq E0_ok (by kernel_rfl) ?_
    refine XQ.region (by kernel_rfl) ?_
    refine XR.runS E0_ok 1 4 [(4, pp 2 0), (7, s0 3 lh3_1.length), (8, .int .u32 x8_5), (12, pp 4 0), (13, ii x13_4), (14, ii x14_5), (118, .bool (decide (x14_5 ≤ xh4_3_4)))] rfl (by kernel_rfl) ?_
    refine XR.done (by kernel_rfl) ?_
    show XQ _ _ _ _ _ _ _ _
    cases b1 : (decide (x14_5 ≤ xh4_3_4) : Bool) with
    | true =>
      have h := cT b1 h
      refine XQ.cond (s := (.tmp 118)) (b := true) (by kernel_rfl) (by kernel_rfl) (fun _ => ?_) (fun q => by cases q)
      refine XQ.skip (by kernel_rfl) ?_
      show XQ _ _ _ _ _ _ _ _
      refine XQ.seq E0_ok (by kernel_rfl) ?_
      refine XQ.block (id := 10) (by kernel_rfl) ?_
      refine XQ.region (by kernel_rfl) ?_
      refine XR.runS E0_ok 1 9 [(4, pp 2 0), (7, s0 3 lh3_1.length), (12, pp 4 0), (13, ii x13_4), (14, ii x14_5), (121, .int .u32 x8_5), (129, ii (w64 ((w64 (x13_4 * xh2_1_1)) + x14_5)))] rfl (by kernel_rfl) ?_
      cases b2 : (decide (0 ≤ w64 ((w64 (x13_4 * xh2_1_1)) + x14_5)) : Bool) with
      | false => cases (cF b2 h)
      | true =>
        have h := cT b2 h
        have e3 : insV (headI ((gsOf E0 137 (opsOf (lft (lft (rgt f15_L5))))).drop 9) (trS 137 [(4, pp 2 0), (7, s0 3 lh3_1.length), (12, pp 4 0), (13, ii x13_4), (14, ii x14_5), (121, .int .u32 x8_5), (129, ii (w64 ((w64 (x13_4 * xh2_1_1)) + x14_5)))])) (trS 137 [(4, pp 2 0), (7, s0 3 lh3_1.length), (12, pp 4 0), (13, ii x13_4), (14, ii x14_5), (121, .int .u32 x8_5), (129, ii (w64 ((w64 (x13_4 * xh2_1_1)) + x14_5)))]) [(4, .cells [ii xh4_0_4, ii xh4_1_4, ii xh4_2_4, ii xh4_3_4] 0 43 0), (3, rc encR lh3_1 0 43 4), (2, .cells ([ii xh2_0_1, ii xh2_1_1, ii xh2_2_1] ++ rowC (encI .u32) lh2_1) 0 72 0), (1, rc (encI .i64) a_Frozen z1 y1 1), (0, rc (encI .i64) a_Sick z0 y0 1)] = (match (decide (0 ≤ w64 ((w64 (x13_4 * xh2_1_1)) + x14_5)) : Bool) with | true => some (.int .u32 (shV true .u32 1 (w64 ((w64 (x13_4 * xh2_1_1)) + x14_5)))) | false => none) := by kernel_rfl
        refine XR.rd E0_ok [4, 7, 12, 13, 14, 121, 130] rfl (e3.trans (by rw [b2])) (σ' := [(4, pp 2 0), (7, s0 3 lh3_1.length), (12, pp 4 0), (13, ii x13_4), (14, ii x14_5), (121, .int .u32 x8_5), (130, .int .u32 (shV true .u32 1 (w64 ((w64 (x13_4 * xh2_1_1)) + x14_5))))]) (by kernel_rfl) ?_
        refine XR.runS E0_ok 1 2 [(4, pp 2 0), (7, s0 3 lh3_1.length), (8, .int .u32 (andNotV .u32 x8_5 (shV true .u32 1 (w64 ((w64 (x13_4 * xh2_1_1)) + x14_5))))), (12, pp 4 0), (13, ii x13_4), (14, ii x14_5)] rfl (by kernel_rfl) ?_
        refine XR.done (by kernel_rfl) ?_
        show XQ _ _ _ _ _ _ _ _
        refine XQ.region (by kernel_rfl) ?_
        refine XR.runS E0_ok 1 3 [(4, pp 2 0), (7, s0 3 lh3_1.length), (8, .int .u32 (andNotV .u32 x8_5 (shV true .u32 1 (w64 ((w64 (x13_4 * xh2_1_1)) + x14_5))))), (12, pp 4 0), (13, ii x13_4), (14, ii (w64 (x14_5 + 1)))] rfl (by kernel_rfl) ?_
        refine XR.done (by kernel_rfl) ?_
        show XL _ _ _ _ _ _ _ _ _
        refine XL.ren (σ' := [(4, pp 2 0), (7, s0 3 lh3_1.length), (8, .int .u32 (andNotV .u32 x8_5 (shV true .u32 1 (w64 ((w64 (x13_4 * xh2_1_1)) + x14_5))))), (12, pp 4 0), (13, ii x13_4), (14, ii (w64 (x14_5 + 1)))]) (h' := [(4, .cells [ii xh4_0_4, ii xh4_1_4, ii xh4_2_4, ii xh4_3_4] 0 43 0), (3, rc encR lh3_1 0 43 4), (2, .cells ([ii xh2_0_1, ii xh2_1_1, ii xh2_2_1] ++ rowC (encI .u32) lh2_1) 0 72 0), (1, rc (encI .i64) a_Frozen z1 y1 1), (0, rc (encI .i64) a_Sick z0 y0 1)]) (c' := 5) [0, 1, 2, 3, 4] (by decide) rfl ⟨by kernel_rfl, by kernel_rfl, by kernel_rfl, by kernel_rfl, by kernel_rfl, by kernel_rfl, trivial⟩ ⟨⟨_, _, rfl, rfl, .inr ⟨_, _, _, _, rfl, rfl⟩⟩, ⟨_, _, rfl, rfl, .inl ⟨rfl, rowC_scal encR_ok _⟩⟩, ⟨_, _, rfl, rfl, .inl ⟨rfl, preC_scal rfl (rowC_scal (encI_ok .u32) _)⟩⟩, ⟨_, _, rfl, rfl, .inl ⟨rfl, rowC_scal (encI_ok .i64) _⟩⟩, ⟨_, _, rfl, rfl, .inl ⟨rfl, rowC_scal (encI_ok .i64) _⟩⟩, trivial⟩ rfl ?_
        refine XL.conv (f15_5_ok m fuel z0 y0 z1 y1 a_Sick a_Frozen xh2_0_1 xh2_1_1 xh2_2_1 lh2_1 lh3_1 x13_4 xh4_0_4 xh4_1_4 xh4_2_4 xh4_3_4 (andNotV .u32 x8_5 (shV true .u32 1 (w64 ((w64 (x13_4 * xh2_1_1)) + x14_5)))) (w64 (x14_5 + 1)) o h Q hQ) (by first | with_reducible rfl | simp | rfl)
    | false =>
      have h := cF b1 h
      refine XQ.cond (s := (.tmp 118)) (b := false) (by kernel_rfl) (by kernel_rfl) (fun q => by cases q) (fun _ => ?_)
      refine XQ.ren (σ' := [(4, pp 2 0), (7, s0 3 lh3_1.length), (8, .int .u32 x8_5), (12, pp 4 0), (13, ii x13_4)]) (h' := [(4, .cells [ii xh4_0_4, ii xh4_1_4, ii xh4_2_4, ii xh4_3_4] 0 43 0), (3, rc encR lh3_1 0 43 4), (2, .cells ([ii xh2_0_1, ii xh2_1_1, ii xh2_2_1] ++ rowC (encI .u32) lh2_1) 0 72 0), (1, rc (encI .i64) a_Frozen z1 y1 1), (0, rc (encI .i64) a_Sick z0 y0 1)]) (c' := 5) [0, 1, 2, 3, 4] (by decide) rfl ⟨by kernel_rfl, by kernel_rfl, by kernel_rfl, by kernel_rfl, by kernel_rfl, trivial⟩ ⟨⟨_, _, rfl, rfl, .inr ⟨_, _, _, _, rfl, rfl⟩⟩, ⟨_, _, rfl, rfl, .inl ⟨rfl, rowC_scal encR_ok _⟩⟩, ⟨_, _, rfl, rfl, .inl ⟨rfl, preC_scal rfl (rowC_scal (encI_ok .u32) _)⟩⟩, ⟨_, _, rfl, rfl, .inl ⟨rfl, rowC_scal (encI_ok .i64) _⟩⟩, ⟨_, _, rfl, rfl, .inl ⟨rfl, rowC_scal (encI_ok .i64) _⟩⟩, trivial⟩ rfl ?_
      refine XQ.exit (i := 9) (by kernel_rfl) ?_
      cases h
      exact hQ

def f15_4 (m : Nat) : Nat → List Int → List Int → Int → Int → Int → List Int → List (Int × Int × Int × Int) → Int → Int → Int → Int → Int → Int → Option (Int × Int × Int × Int × Int)
  | 0, _, _, _, _, _, _, _, _, _, _, _, _, _ => none
  | fuel + 1, a_Sick, a_Frozen, xh2_0_1, xh2_1_1, xh2_2_1, lh2_1, lh3_1, x8_4, x13_4, xh4_0_4, xh4_1_4, xh4_2_4, xh4_3_4 =>
    cond (decide (x13_4 ≤ xh4_2_4)) (
      (f15_5 m m a_Sick a_Frozen xh2_0_1 xh2_1_1 xh2_2_1 lh2_1 lh3_1 x13_4 xh4_0_4 xh4_1_4 xh4_2_4 xh4_3_4 x8_4 xh4_1_4).bind fun o5 =>
        f15_4 m fuel a_Sick a_Frozen xh2_0_1 xh2_1_1 xh2_2_1 lh2_1 lh3_1 o5 (w64 (x13_4 + 1)) xh4_0_4 xh4_1_4 xh4_2_4 xh4_3_4
    ) (
      some (x8_4, xh4_0_4, xh4_1_4, xh4_2_4, xh4_3_4)
    )

theorem f15_4_ok (m : Nat) : ∀ (fuel : Nat) (z0 : Nat) (y0 : Nat) (z1 : Nat) (y1 : Nat) (a_Sick : List Int) (a_Frozen : List Int) (xh2_0_1 : Int) (xh2_1_1 : Int) (xh2_2_1 : Int) (lh2_1 : List Int) (lh3_1 : List (Int × Int × Int × Int)) (x8_4 : Int) (x13_4 : Int) (xh4_0_4 : Int) (xh4_1_4 : Int) (xh4_2_4 : Int) (xh4_3_4 : Int) (o : (Int × Int × Int × Int × Int)), f15_4 m fuel a_Sick a_Frozen xh2_0_1 xh2_1_1 xh2_2_1 lh2_1 lh3_1 x8_4 x13_4 xh4_0_4 xh4_1_4 xh4_2_4 xh4_3_4 = some o → ∀ Q : QP, Q (.exit 7) [(4, pp 2 0), (7, s0 3 lh3_1.length), (8, .int .u32 o.1), (12, pp 4 0)] [(4, .cells [ii o.2.1, ii o.2.2.1, ii o.2.2.2.1, ii o.2.2.2.2] 0 43 0), (3, rc encR lh3_1 0 43 4), (2, .cells ([ii xh2_0_1, ii xh2_1_1, ii xh2_2_1] ++ rowC (encI .u32) lh2_1) 0 72 0), (1, rc (encI .i64) a_Frozen z1 y1 1), (0, rc (encI .i64) a_Sick z0 y0 1)] 5 → XL E0 137 2 fuel f15_L4 [(4, pp 2 0), (7, s0 3 lh3_1.length), (8, .int .u32 x8_4), (12, pp 4 0), (13, ii x13_4)] [(4, .cells [ii xh4_0_4, ii xh4_1_4, ii xh4_2_4, ii xh4_3_4] 0 43 0), (3, rc encR lh3_1 0 43 4), (2, .cells ([ii xh2_0_1, ii xh2_1_1, ii xh2_2_1] ++ rowC (encI .u32) lh2_1) 0 72 0), (1, rc (encI .i64) a_Frozen z1 y1 1), (0, rc (encI .i64) a_Sick z0 y0 1)] 5 Q
  | 0, z0, y0, z1, y1, a_Sick, a_Frozen, xh2_0_1, xh2_1_1, xh2_2_1, lh2_1, lh3_1, x8_4, x13_4, xh4_0_4, xh4_1_4, xh4_2_4, xh4_3_4, o, h, Q, hQ => by cases h
  | fuel + 1, z0, y0, z1, y1, a_Sick, a_Frozen, xh2_0_1, xh2_1_1, xh2_2_1, lh2_1, lh3_1, x8_4, x13_4, xh4_0_4, xh4_1_4, xh4_2_4, xh4_3_4, o, h, Q, hQ => by
    unfold f15_4 at h
    refine XL.succ E0_ok ?_
    refine XQ.seq E0_ok (by kernel_rfl) ?_
    refine XQ.seq E0_ok (by kernel_rfl) ?_
    refine XQ.region (by kernel_rfl) ?_
    refine XR.runS E0_ok 1 4 [(4, pp 2 0), (7, s0 3 lh3_1.length), (8, .int .u32 x8_4), (12, pp 4 0), (13, ii x13_4), (110, .bool (decide (x13_4 ≤ xh4_2_4)))] rfl (by kernel_rfl) ?_
    refine XR.done (by kernel_rfl) ?_
    show XQ _ _ _ _ _ _ _ _
    cases b1 : (decide (x13_4 ≤ xh4_2_4) : Bool) with
    | true =>
      have h := cT b1 h
      refine XQ.cond (s := (.tmp 110)) (b := true) (by kernel_rfl) (by kernel_rfl) (fun _ => ?_) (fun q => by cases q)
      refine XQ.skip (by kernel_rfl) ?_
      show XQ _ _ _ _ _ _ _ _
      refine XQ.seq E0_ok (by kernel_rfl) ?_
      refine XQ.block (id := 8) (by kernel_rfl) ?_
      refine XQ.seq E0_ok (by kernel_rfl) ?_
      refine XQ.region (by kernel_rfl) ?_
      refine XR.runS E0_ok 1 3 [(4, pp 2 0), (7, s0 3 lh3_1.length), (8, .int .u32 x8_4), (12, pp 4 0), (13, ii x13_4), (14, ii xh4_1_4)] rfl (by kernel_rfl) ?_
      refine XR.done (by kernel_rfl) ?_
      show XQ _ _ _ _ _ _ _ _
      refine XQ.block (id := 9) (by kernel_rfl) ?_
      refine XQ.loop m (by kernel_rfl) ?_
      obtain ⟨o5, o5_h, h⟩ := bS h
      refine XL.ren (σ' := [(4, pp 2 0), (7, s0 3 lh3_1.length), (8, .int .u32 x8_4), (12, pp 4 0), (13, ii x13_4), (14, ii xh4_1_4)]) (h' := [(4, .cells [ii xh4_0_4, ii xh4_1_4, ii xh4_2_4, ii xh4_3_4] 0 43 0), (3, rc encR lh3_1 0 43 4), (2, .cells ([ii xh2_0_1, ii xh2_1_1, ii xh2_2_1] ++ rowC (encI .u32) lh2_1) 0 72 0), (1, rc (encI .i64) a_Frozen z1 y1 1), (0, rc (encI .i64) a_Sick z0 y0 1)]) (c' := 5) [0, 1, 2, 3, 4] (by decide) rfl ⟨by kernel_rfl, by kernel_rfl, by kernel_rfl, by kernel_rfl, by kernel_rfl, by kernel_rfl, trivial⟩ ⟨⟨_, _, rfl, rfl, .inr ⟨_, _, _, _, rfl, rfl⟩⟩, ⟨_, _, rfl, rfl, .inl ⟨rfl, rowC_scal encR_ok _⟩⟩, ⟨_, _, rfl, rfl, .inl ⟨rfl, preC_scal rfl (rowC_scal (encI_ok .u32) _)⟩⟩, ⟨_, _, rfl, rfl, .inl ⟨rfl, rowC_scal (encI_ok .i64) _⟩⟩, ⟨_, _, rfl, rfl, .inl ⟨rfl, rowC_scal (encI_ok .i64) _⟩⟩, trivial⟩ rfl ?_
      refine XL.conv (f15_5_ok m m z0 y0 z1 y1 a_Sick a_Frozen xh2_0_1 xh2_1_1 xh2_2_1 lh2_1 lh3_1 x13_4 xh4_0_4 xh4_1_4 xh4_2_4 xh4_3_4 x8_4 xh4_1_4 o5 o5_h _ ?_) (by first | with_reducible rfl | simp | rfl)
      show XQ _ _ _ _ _ _ _ _
      refine XQ.region (by kernel_rfl) ?_
      refine XR.runS E0_ok 1 3 [(4, pp 2 0), (7, s0 3 lh3_1.length), (8, .int .u32 o5), (12, pp 4 0), (13, ii (w64 (x13_4 + 1)))] rfl (by kernel_rfl) ?_
      refine XR.done (by kernel_rfl) ?_
      show XL _ _ _ _ _ _ _ _ _
      refine XL.ren (σ' := [(4, pp 2 0), (7, s0 3 lh3_1.length), (8, .int .u32 o5), (12, pp 4 0), (13, ii (w64 (x13_4 + 1)))]) (h' := [(4, .cells [ii xh4_0_4, ii xh4_1_4, ii xh4_2_4, ii xh4_3_4] 0 43 0), (3, rc encR lh3_1 0 43 4), (2, .cells ([ii xh2_0_1, ii xh2_1_1, ii xh2_2_1] ++ rowC (encI .u32) lh2_1) 0 72 0), (1, rc (encI .i64) a_Frozen z1 y1 1), (0, rc (encI .i64) a_Sick z0 y0 1)]) (c' := 5) [0, 1, 2, 3, 4] (by decide) rfl ⟨by kernel_rfl, by kernel_rfl, by kernel_rfl, by kernel_rfl, by kernel_rfl, trivial⟩ ⟨⟨_, _, rfl, rfl, .inr ⟨_, _, _, _, rfl, rfl⟩⟩, ⟨_, _, rfl, rfl, .inl ⟨rfl, rowC_scal encR_ok _⟩⟩, ⟨_, _, rfl, rfl, .inl ⟨rfl, preC_scal rfl (rowC_scal (encI_ok .u32) _)⟩⟩, ⟨_, _, rfl, rfl, .inl ⟨rfl, rowC_scal (encI_ok .i64) _⟩⟩, ⟨_, _, rfl, rfl, .inl ⟨rfl, rowC_scal (encI_ok .i64) _⟩⟩, trivial⟩ rfl ?_
      refine XL.conv (f15_4_ok m fuel z0 y0 z1 y1 a_Sick a_Frozen xh2_0_1 xh2_1_1 xh2_2_1 lh2_1 lh3_1 o5 (w64 (x13_4 + 1)) xh4_0_4 xh4_1_4 xh4_2_4 xh4_3_4 o h Q hQ) (by first | with_reducible rfl | simp | rfl)
    | false =>
      have h := cF b1 h
      refine XQ.cond (s := (.tmp 110)) (b := false) (by kernel_rfl) (by kernel_rfl) (fun q => by cases q) (fun _ => ?_)
      refine XQ.ren (σ' := [(4, pp 2 0), (7, s0 3 lh3_1.length), (8, .int .u32 x8_4), (12, pp 4 0)]) (h' := [(4, .cells [ii xh4_0_4, ii xh4_1_4, ii xh4_2_4, ii xh4_3_4] 0 43 0), (3, rc encR lh3_1 0 43 4), (2, .cells ([ii xh2_0_1, ii xh2_1_1, ii xh2_2_1] ++ rowC (encI .u32) lh2_1) 0 72 0), (1, rc (encI .i64) a_Frozen z1 y1 1), (0, rc (encI .i64) a_Sick z0 y0 1)]) (c' := 5) [0, 1, 2, 3, 4] (by decide) rfl ⟨by kernel_rfl, by kernel_rfl, by kernel_rfl, by kernel_rfl, trivial⟩ ⟨⟨_, _, rfl, rfl, .inr ⟨_, _, _, _, rfl, rfl⟩⟩, ⟨_, _, rfl, rfl, .inl ⟨rfl, rowC_scal encR_ok _⟩⟩, ⟨_, _, rfl, rfl, .inl ⟨rfl, preC_scal rfl (rowC_scal (encI_ok .u32) _)⟩⟩, ⟨_, _, rfl, rfl, .inl ⟨rfl, rowC_scal (encI_ok .i64) _⟩⟩, ⟨_, _, rfl, rfl, .inl ⟨rfl, rowC_scal (encI_ok .i64) _⟩⟩, trivial⟩ rfl ?_
      refine XQ.exit (i := 7) (by kernel_rfl) ?_
      cases h
      exact hQ

def f15_1 (m : Nat) : Nat → List Int → List Int → Int → Int → Int → Int → List Int → List (Int × Int × Int × Int) → Option (List (Int × Int × Int × Int))
  | 0, _, _, _, _, _, _, _, _ => none
  | fuel + 1, a_Sick, a_Frozen, x8_1, xh2_0_1, xh2_1_1, xh2_2_1, lh2_1, lh3_1 =>
    cond (x8_1 != 0) (
      cond (tzD x8_1) (
        cond (xh2_1_1 != 0) (
          (f15_2 m m a_Sick a_Frozen x8_1 xh2_0_1 xh2_1_1 xh2_2_1 lh2_1 lh3_1 (w64 (Int.tdiv (tzG x8_1) xh2_1_1)) (Int.tmod (tzG x8_1) xh2_1_1) (w64 (Int.tdiv (tzG x8_1) xh2_1_1)) (Int.tmod (tzG x8_1) xh2_1_1) (w64 (Int.tdiv (tzG x8_1) xh2_1_1)) (Int.tmod (tzG x8_1) xh2_1_1)).bind fun o2 =>
            (f15_3 m m a_Sick a_Frozen x8_1 xh2_0_1 xh2_1_1 xh2_2_1 lh2_1 lh3_1 o2.1 o2.2.1 o2.2.2.1 o2.2.2.2.1 o2.2.2.2.2).bind fun o3 =>
              (f15_4 m m a_Sick a_Frozen xh2_0_1 xh2_1_1 xh2_2_1 lh2_1 lh3_1 x8_1 o3.1 o3.1 o3.2.1 o3.2.2.1 o3.2.2.2).bind fun o4 =>
                cond (fitsB (lh3_1.length + 1) 32) (
                  f15_1 m fuel a_Sick a_Frozen o4.1 xh2_0_1 xh2_1_1 xh2_2_1 lh2_1 (lh3_1 ++ [(o4.2.1, o4.2.2.1, o4.2.2.2.1, o4.2.2.2.2)])
                ) none
        ) none
      ) none
    ) (
      some (lh3_1)
    )

theorem f15_1_ok (m : Nat) : ∀ (fuel : Nat) (z0 : Nat) (y0 : Nat) (z1 : Nat) (y1 : Nat) (a_Sick : List Int) (a_Frozen : List Int) (x8_1 : Int) (xh2_0_1 : Int) (xh2_1_1 : Int) (xh2_2_1 : Int) (lh2_1 : List Int) (lh3_1 : List (Int × Int × Int × Int)) (o : (List (Int × Int × Int × Int))), f15_1 m fuel a_Sick a_Frozen x8_1 xh2_0_1 xh2_1_1 xh2_2_1 lh2_1 lh3_1 = some o → ∀ Q : QP, Q (.exit 1) [(7, s0 2 o.length)] [(2, rc encR o 0 43 4), (1, rc (encI .i64) a_Frozen z1 y1 1), (0, rc (encI .i64) a_Sick z0 y0 1)] 3 → XL E0 137 2 fuel f15_L1 [(4, pp 2 0), (7, s0 3 lh3_1.length), (8, .int .u32 x8_1)] [(3, rc encR lh3_1 0 43 4), (2, .cells ([ii xh2_0_1, ii xh2_1_1, ii xh2_2_1] ++ rowC (encI .u32) lh2_1) 0 72 0), (1, rc (encI .i64) a_Frozen z1 y1 1), (0, rc (encI .i64) a_Sick z0 y0 1)] 4 Q
  | 0, z0, y0, z1, y1, a_Sick, a_Frozen, x8_1, xh2_0_1, xh2_1_1, xh2_2_1, lh2_1, lh3_1, o, h, Q, hQ => by cases h
  | fuel + 1, z0, y0, z1, y1, a_Sick, a_Frozen, x8_1, xh2_0_1, xh2_1_1, xh2_2_1, lh2_1, lh3_1, o, h, Q, hQ => by
    unfold f15_1 at h
    refine XL.succ E0_ok ?_
    refine XQ.seq E0_ok (by kernel_rfl) ?_
    refine XQ.seq E0_ok (by kernel_rfl) ?_
    refine XQ.region (by kernel_rfl) ?_
    refine XR.runS E0_ok 1 2 [(4, pp 2 0), (7, s0 3 lh3_1.length), (8, .int .u32 x8_1), (33, .bool (x8_1 != 0))] rfl (by kernel_rfl) ?_
    refine XR.done (by kernel_rfl) ?_
    show XQ _ _ _ _ _ _ _ _
    cases b1 : (x8_1 != 0 : Bool) with
    | true =>
      have h := cT b1 h
      refine XQ.cond (s := (.tmp 33)) (b := true) (by kernel_rfl) (by kernel_rfl) (fun _ => ?_) (fun q => by cases q)
      refine XQ.skip (by kernel_rfl) ?_
      show XQ _ _ _ _ _ _ _ _
      refine XQ.block (id := 2) (by kernel_rfl) ?_
      refine XQ.seq E0_ok (by kernel_rfl) ?_
      refine XQ.region (by kernel_rfl) ?_
      refine XR.runS E0_ok 1 1 [(4, pp 2 0), (7, s0 3 lh3_1.length), (8, .int .u32 x8_1), (34, .int .u32 x8_1)] rfl (by kernel_rfl) ?_
      cases b2 : (tzD x8_1 : Bool) with
      | false => cases (cF b2 h)
      | true =>
        have h := cT b2 h
        refine XR.call E0_ok [4, 7, 8, 35] rfl (K := 39) (args := [.int .u32 x8_1]) (d := (some (path 12 35))) (by kernel_rfl) (KC.of_calls E0_ok (F := Proofs.Tryz.f39) (v := ii (tzG x8_1)) (by kernel_rfl) rfl rfl (tzG_ok b2)) ?_
        rintro _ _ _ ⟨rfl, rfl, rfl⟩
        refine XR.conv (σ' := [(4, pp 2 0), (7, s0 3 lh3_1.length), (8, .int .u32 x8_1), (35, ii (tzG x8_1))]) (h' := [(3, rc encR lh3_1 0 43 4), (2, .cells ([ii xh2_0_1, ii xh2_1_1, ii xh2_2_1] ++ rowC (encI .u32) lh2_1) 0 72 0), (1, rc (encI .i64) a_Frozen z1 y1 1), (0, rc (encI .i64) a_Sick z0 y0 1)]) (c' := 4) ?_ (by kernel_rfl)
        refine XR.runS E0_ok 1 1 [(4, pp 2 0), (7, s0 3 lh3_1.length), (8, .int .u32 x8_1), (9, ii (tzG x8_1))] rfl (by kernel_rfl) ?_
        refine XR.done (by kernel_rfl) ?_
        show XQ _ _ _ _ _ _ _ _
        refine XQ.seq E0_ok (by kernel_rfl) ?_
        refine XQ.quiet E0_ok (by kernel_rfl) (by kernel_rfl) ?_
        refine XU.run E0_ok 1 5 [4, 7, 8, 9, 36, 40] rfl (σ' := [(4, pp 2 0), (7, s0 3 lh3_1.length), (8, .int .u32 x8_1), (9, ii (tzG x8_1)), (36, ii (tzG x8_1)), (40, ii xh2_1_1)]) (by kernel_rfl) ?_
        cases b3 : (xh2_1_1 != 0 : Bool) with
        | false => cases (cF b3 h)
        | true =>
          have h := cT b3 h
          have e4 : insV (headI ((gsOf E0 137 (opsOf (lft (rgt (lft (rgt f15_L1)))))).drop 5) (trS 137 [(4, pp 2 0), (7, s0 3 lh3_1.length), (8, .int .u32 x8_1), (9, ii (tzG x8_1)), (36, ii (tzG x8_1)), (40, ii xh2_1_1)])) (trS 137 [(4, pp 2 0), (7, s0 3 lh3_1.length), (8, .int .u32 x8_1), (9, ii (tzG x8_1)), (36, ii (tzG x8_1)), (40, ii xh2_1_1)]) [(3, rc encR lh3_1 0 43 4), (2, .cells ([ii xh2_0_1, ii xh2_1_1, ii xh2_2_1] ++ rowC (encI .u32) lh2_1) 0 72 0), (1, rc (encI .i64) a_Frozen z1 y1 1), (0, rc (encI .i64) a_Sick z0 y0 1)] = (match (xh2_1_1 != 0 : Bool) with | true => some (ii (w64 (Int.tdiv (tzG x8_1) xh2_1_1))) | false => none) := by kernel_rfl
          refine XU.rd E0_ok [4, 7, 8, 9, 41] rfl (e4.trans (by rw [b3])) (σ' := [(4, pp 2 0), (7, s0 3 lh3_1.length), (8, .int .u32 x8_1), (9, ii (tzG x8_1)), (41, ii (w64 (Int.tdiv (tzG x8_1) xh2_1_1)))]) (by kernel_rfl) ?_
          refine XU.run E0_ok 1 5 [4, 7, 8, 41, 42, 46] rfl (σ' := [(4, pp 2 0), (7, s0 3 lh3_1.length), (8, .int .u32 x8_1), (41, ii (w64 (Int.tdiv (tzG x8_1) xh2_1_1))), (42, ii (tzG x8_1)), (46, ii xh2_1_1)]) (by kernel_rfl) ?_
          have e5 : insV (headI ((gsOf E0 137 (opsOf (lft (rgt (lft (rgt f15_L1)))))).drop 11) (trS 137 [(4, pp 2 0), (7, s0 3 lh3_1.length), (8, .int .u32 x8_1), (41, ii (w64 (Int.tdiv (tzG x8_1) xh2_1_1))), (42, ii (tzG x8_1)), (46, ii xh2_1_1)])) (trS 137 [(4, pp 2 0), (7, s0 3 lh3_1.length), (8, .int .u32 x8_1), (41, ii (w64 (Int.tdiv (tzG x8_1) xh2_1_1))), (42, ii (tzG x8_1)), (46, ii xh2_1_1)]) [(3, rc encR lh3_1 0 43 4), (2, .cells ([ii xh2_0_1, ii xh2_1_1, ii xh2_2_1] ++ rowC (encI .u32) lh2_1) 0 72 0), (1, rc (encI .i64) a_Frozen z1 y1 1), (0, rc (encI .i64) a_Sick z0 y0 1)] = (match (xh2_1_1 != 0 : Bool) with | true => some (ii (Int.tmod (tzG x8_1) xh2_1_1)) | false => none) := by kernel_rfl
          refine XU.rd E0_ok [4, 7, 8, 41, 47] rfl (e5.trans (by rw [b3])) (σ' := [(4, pp 2 0), (7, s0 3 lh3_1.length), (8, .int .u32 x8_1), (41, ii (w64 (Int.tdiv (tzG x8_1) xh2_1_1))), (47, ii (Int.tmod (tzG x8_1) xh2_1_1))]) (by kernel_rfl) ?_
          refine XU.run E0_ok 1 2 [4, 7, 8, 10, 11] rfl (σ' := [(4, pp 2 0), (7, s0 3 lh3_1.length), (8, .int .u32 x8_1), (10, ii (w64 (Int.tdiv (tzG x8_1) xh2_1_1))), (11, ii (Int.tmod (tzG x8_1) xh2_1_1))]) (by kernel_rfl) ?_
          refine XU.done (by kernel_rfl) ?_
          show XQ _ _ _ _ _ _ _ _
          refine XQ.seq E0_ok (by kernel_rfl) ?_
          refine XQ.region (by kernel_rfl) ?_
          refine XR.runT E0_ok 1 7 [(4, pp 2 0), (7, s0 3 lh3_1.length), (8, .int .u32 x8_1), (10, ii (w64 (Int.tdiv (tzG x8_1) xh2_1_1))), (11, ii (Int.tmod (tzG x8_1) xh2_1_1)), (12, pp 4 0)] [(4, .cells [ii (w64 (Int.tdiv (tzG x8_1) xh2_1_1)), ii (Int.tmod (tzG x8_1) xh2_1_1), ii (w64 (Int.tdiv (tzG x8_1) xh2_1_1)), ii (Int.tmod (tzG x8_1) xh2_1_1)] 0 43 0), (3, rc encR lh3_1 0 43 4), (2, .cells ([ii xh2_0_1, ii xh2_1_1, ii xh2_2_1] ++ rowC (encI .u32) lh2_1) 0 72 0), (1, rc (encI .i64) a_Frozen z1 y1 1), (0, rc (encI .i64) a_Sick z0 y0 1)] 5 rfl (by kernel_rfl) ?_
          refine XR.done (by kernel_rfl) ?_
          show XQ _ _ _ _ _ _ _ _
          refine XQ.seq E0_ok (by kernel_rfl) ?_
          refine XQ.block (id := 3) (by kernel_rfl) ?_
          refine XQ.loop m (by kernel_rfl) ?_
          obtain ⟨o2, o2_h, h⟩ := bS h
          refine XL.ren (σ' := [(4, pp 2 0), (7, s0 3 lh3_1.length), (8, .int .u32 x8_1), (10, ii (w64 (Int.tdiv (tzG x8_1) xh2_1_1))), (11, ii (Int.tmod (tzG x8_1) xh2_1_1)), (12, pp 4 0)]) (h' := [(4, .cells [ii (w64 (Int.tdiv (tzG x8_1) xh2_1_1)), ii (Int.tmod (tzG x8_1) xh2_1_1), ii (w64 (Int.tdiv (tzG x8_1) xh2_1_1)), ii (Int.tmod (tzG x8_1) xh2_1_1)] 0 43 0), (3, rc encR lh3_1 0 43 4), (2, .cells ([ii xh2_0_1, ii xh2_1_1, ii xh2_2_1] ++ rowC (encI .u32) lh2_1) 0 72 0), (1, rc (encI .i64) a_Frozen z1 y1 1), (0, rc (encI .i64) a_Sick z0 y0 1)]) (c' := 5) [0, 1, 2, 3, 4] (by decide) rfl ⟨by kernel_rfl, by kernel_rfl, by kernel_rfl, by kernel_rfl, by kernel_rfl, by kernel_rfl, trivial⟩ ⟨⟨_, _, rfl, rfl, .inr ⟨_, _, _, _, rfl, rfl⟩⟩, ⟨_, _, rfl, rfl, .inl ⟨rfl, rowC_scal encR_ok _⟩⟩, ⟨_, _, rfl, rfl, .inl ⟨rfl, preC_scal rfl (rowC_scal (encI_ok .u32) _)⟩⟩, ⟨_, _, rfl, rfl, .inl ⟨rfl, rowC_scal (encI_ok .i64) _⟩⟩, ⟨_, _, rfl, rfl, .inl ⟨rfl, rowC_scal (encI_ok .i64) _⟩⟩, trivial⟩ rfl ?_
          refine XL.conv (f15_2_ok m m z0 y0 z1 y1 a_Sick a_Frozen x8_1 xh2_0_1 xh2_1_1 xh2_2_1 lh2_1 lh3_1 (w64 (Int.tdiv (tzG x8_1) xh2_1_1)) (Int.tmod (tzG x8_1) xh2_1_1) (w64 (Int.tdiv (tzG x8_1) xh2_1_1)) (Int.tmod (tzG x8_1) xh2_1_1) (w64 (Int.tdiv (tzG x8_1) xh2_1_1)) (Int.tmod (tzG x8_1) xh2_1_1) o2 o2_h _ ?_) (by first | with_reducible rfl | simp | rfl)
          show XQ _ _ _ _ _ _ _ _
          refine XQ.seq E0_ok (by kernel_rfl) ?_
          refine XQ.block (id := 5) (by kernel_rfl) ?_
          refine XQ.loop m (by kernel_rfl) ?_
          obtain ⟨o3, o3_h, h⟩ := bS h
          refine XL.ren (σ' := [(4, pp 2 0), (7, s0 3 lh3_1.length), (8, .int .u32 x8_1), (10, ii o2.1), (12, pp 4 0)]) (h' := [(4, .cells [ii o2.2.1, ii o2.2.2.1, ii o2.2.2.2.1, ii o2.2.2.2.2] 0 43 0), (3, rc encR lh3_1 0 43 4), (2, .cells ([ii xh2_0_1, ii xh2_1_1, ii xh2_2_1] ++ rowC (encI .u32) lh2_1) 0 72 0), (1, rc (encI .i64) a_Frozen z1 y1 1), (0, rc (encI .i64) a_Sick z0 y0 1)]) (c' := 5) [0, 1, 2, 3, 4] (by decide) rfl ⟨by kernel_rfl, by kernel_rfl, by kernel_rfl, by kernel_rfl, by kernel_rfl, trivial⟩ ⟨⟨_, _, rfl, rfl, .inr ⟨_, _, _, _, rfl, rfl⟩⟩, ⟨_, _, rfl, rfl, .inl ⟨rfl, rowC_scal encR_ok _⟩⟩, ⟨_, _, rfl, rfl, .inl ⟨rfl, preC_scal rfl (rowC_scal (encI_ok .u32) _)⟩⟩, ⟨_, _, rfl, rfl, .inl ⟨rfl, rowC_scal (encI_ok .i64) _⟩⟩, ⟨_, _, rfl, rfl, .inl ⟨rfl, rowC_scal (encI_ok .i64) _⟩⟩, trivial⟩ rfl ?_
          refine XL.conv (f15_3_ok m m z0 y0 z1 y1 a_Sick a_Frozen x8_1 xh2_0_1 xh2_1_1 xh2_2_1 lh2_1 lh3_1 o2.1 o2.2.1 o2.2.2.1 o2.2.2.2.1 o2.2.2.2.2 o3 o3_h _ ?_) (by first | with_reducible rfl | simp | rfl)
          show XQ _ _ _ _ _ _ _ _
          refine XQ.seq E0_ok (by kernel_rfl) ?_
          refine XQ.seq E0_ok (by kernel_rfl) ?_
          refine XQ.region (by kernel_rfl) ?_
          refine XR.runS E0_ok 1 3 [(4, pp 2 0), (7, s0 3 lh3_1.length), (8, .int .u32 x8_1), (12, pp 4 0), (13, ii o3.1)] rfl (by kernel_rfl) ?_
          refine XR.done (by kernel_rfl) ?_
          show XQ _ _ _ _ _ _ _ _
          refine XQ.block (id := 7) (by kernel_rfl) ?_
          refine XQ.loop m (by kernel_rfl) ?_
          obtain ⟨o4, o4_h, h⟩ := bS h
          refine XL.ren (σ' := [(4, pp 2 0), (7, s0 3 lh3_1.length), (8, .int .u32 x8_1), (12, pp 4 0), (13, ii o3.1)]) (h' := [(4, .cells [ii o3.1, ii o3.2.1, ii o3.2.2.1, ii o3.2.2.2] 0 43 0), (3, rc encR lh3_1 0 43 4), (2, .cells ([ii xh2_0_1, ii xh2_1_1, ii xh2_2_1] ++ rowC (encI .u32) lh2_1) 0 72 0), (1, rc (encI .i64) a_Frozen z1 y1 1), (0, rc (encI .i64) a_Sick z0 y0 1)]) (c' := 5) [0, 1, 2, 3, 4] (by decide) rfl ⟨by kernel_rfl, by kernel_rfl, by kernel_rfl, by kernel_rfl, by kernel_rfl, trivial⟩ ⟨⟨_, _, rfl, rfl, .inr ⟨_, _, _, _, rfl, rfl⟩⟩, ⟨_, _, rfl, rfl, .inl ⟨rfl, rowC_scal encR_ok _⟩⟩, ⟨_, _, rfl, rfl, .inl ⟨rfl, preC_scal rfl (rowC_scal (encI_ok .u32) _)⟩⟩, ⟨_, _, rfl, rfl, .inl ⟨rfl, rowC_scal (encI_ok .i64) _⟩⟩, ⟨_, _, rfl, rfl, .inl ⟨rfl, rowC_scal (encI_ok .i64) _⟩⟩, trivial⟩ rfl ?_
          refine XL.conv (f15_4_ok m m z0 y0 z1 y1 a_Sick a_Frozen xh2_0_1 xh2_1_1 xh2_2_1 lh2_1 lh3_1 x8_1 o3.1 o3.1 o3.2.1 o3.2.2.1 o3.2.2.2 o4 o4_h _ ?_) (by first | with_reducible rfl | simp | rfl)
          show XQ _ _ _ _ _ _ _ _
          refine XQ.region (by kernel_rfl) ?_
          refine XR.runT E0_ok 1 3 [(4, pp 2 0), (8, .int .u32 o4.1), (132, s0 3 lh3_1.length), (134, s0 5 1)] [(5, .cells [ii o4.2.1, ii o4.2.2.1, ii o4.2.2.2.1, ii o4.2.2.2.2] 0 43 4), (4, .cells [ii o4.2.1, ii o4.2.2.1, ii o4.2.2.2.1, ii o4.2.2.2.2] 0 43 0), (3, rc encR lh3_1 0 43 4), (2, .cells ([ii xh2_0_1, ii xh2_1_1, ii xh2_2_1] ++ rowC (encI .u32) lh2_1) 0 72 0), (1, rc (encI .i64) a_Frozen z1 y1 1), (0, rc (encI .i64) a_Sick z0 y0 1)] 6 rfl (by kernel_rfl) ?_
          cases b9 : (fitsB (lh3_1.length + 1) 32 : Bool) with
          | false => cases (cF b9 h)
          | true =>
            have h := cT b9 h
            refine XR.ef E0_ok [4, 8, 135] rfl (e_append encR_ok (bytes := 32) (e := 43) (x := (src 137 (.tmp 132))) (y := (src 137 (.tmp 134))) (b := 3) (len := lh3_1.length) (cap := lh3_1.length) (xs := lh3_1) (m := 0) (ys := [(o4.2.1, o4.2.2.1, o4.2.2.2.1, o4.2.2.2.2)]) (d := (some (path 12 135))) (n' := (lh3_1 ++ [(o4.2.1, o4.2.2.1, o4.2.2.2.1, o4.2.2.2.2)]).length) (h' := [(6, rc encR (lh3_1 ++ [(o4.2.1, o4.2.2.1, o4.2.2.2.1, o4.2.2.2.2)]) 0 43 4), (5, .cells [ii o4.2.1, ii o4.2.2.1, ii o4.2.2.2.1, ii o4.2.2.2.2] 0 43 4), (4, .cells [ii o4.2.1, ii o4.2.2.1, ii o4.2.2.2.1, ii o4.2.2.2.2] 0 43 0), (2, .cells ([ii xh2_0_1, ii xh2_1_1, ii xh2_2_1] ++ rowC (encI .u32) lh2_1) 0 72 0), (1, rc (encI .i64) a_Frozen z1 y1 1), (0, rc (encI .i64) a_Sick z0 y0 1)]) (by kernel_rfl) (by kernel_rfl) (by kernel_rfl) (by kernel_rfl) rfl (by simp) (by simp) b9 (by simp) (by kernel_rfl)) (σ' := [(4, pp 2 0), (8, .int .u32 o4.1), (135, s0 6 ((lh3_1 ++ [(o4.2.1, o4.2.2.1, o4.2.2.2.1, o4.2.2.2.2)]).length))]) (by kernel_rfl) ?_
            refine XR.runS E0_ok 1 1 [(4, pp 2 0), (7, s0 6 ((lh3_1 ++ [(o4.2.1, o4.2.2.1, o4.2.2.2.1, o4.2.2.2.2)]).length)), (8, .int .u32 o4.1)] rfl (by kernel_rfl) ?_
            refine XR.done (by kernel_rfl) ?_
            show XL _ _ _ _ _ _ _ _ _
            refine XL.ren (σ' := [(4, pp 2 0), (7, s0 3 ((lh3_1 ++ [(o4.2.1, o4.2.2.1, o4.2.2.2.1, o4.2.2.2.2)]).length)), (8, .int .u32 o4.1)]) (h' := [(3, rc encR (lh3_1 ++ [(o4.2.1, o4.2.2.1, o4.2.2.2.1, o4.2.2.2.2)]) 0 43 4), (2, .cells ([ii xh2_0_1, ii xh2_1_1, ii xh2_2_1] ++ rowC (encI .u32) lh2_1) 0 72 0), (1, rc (encI .i64) a_Frozen z1 y1 1), (0, rc (encI .i64) a_Sick z0 y0 1)]) (c' := 4) [0, 1, 2, 6] (by decide) rfl ⟨by kernel_rfl, by kernel_rfl, by kernel_rfl, trivial⟩ ⟨⟨_, _, rfl, rfl, .inl ⟨rfl, rowC_scal encR_ok _⟩⟩, ⟨_, _, rfl, rfl, .inl ⟨rfl, preC_scal rfl (rowC_scal (encI_ok .u32) _)⟩⟩, ⟨_, _, rfl, rfl, .inl ⟨rfl, rowC_scal (encI_ok .i64) _⟩⟩, ⟨_, _, rfl, rfl, .inl ⟨rfl, rowC_scal (encI_ok .i64) _⟩⟩, trivial⟩ rfl ?_
            refine XL.conv (f15_1_ok m fuel z0 y0 z1 y1 a_Sick a_Frozen o4.1 xh2_0_1 xh2_1_1 xh2_2_1 lh2_1 (lh3_1 ++ [(o4.2.1, o4.2.2.1, o4.2.2.2.1, o4.2.2.2.2)]) o h Q hQ) (by first | with_reducible rfl | simp | rfl)
    | false =>
      have h := cF b1 h
      refine XQ.cond (s := (.tmp 33)) (b := false) (by kernel_rfl) (by kernel_rfl) (fun q => by cases q) (fun _ => ?_)
      refine XQ.ren (σ' := [(7, s0 2 lh3_1.length)]) (h' := [(2, rc encR lh3_1 0 43 4), (1, rc (encI .i64) a_Frozen z1 y1 1), (0, rc (encI .i64) a_Sick z0 y0 1)]) (c' := 3) [0, 1, 3] (by decide) rfl ⟨by kernel_rfl, trivial⟩ ⟨⟨_, _, rfl, rfl, .inl ⟨rfl, rowC_scal encR_ok _⟩⟩, ⟨_, _, rfl, rfl, .inl ⟨rfl, rowC_scal (encI_ok .i64) _⟩⟩, ⟨_, _, rfl, rfl, .inl ⟨rfl, rowC_scal (encI_ok .i64) _⟩⟩, trivial⟩ rfl ?_
      refine XQ.exit (i := 1) (by kernel_rfl) ?_
      cases h
      exact hQ

def f15 (m : Nat) (a_Rows : Int) (a_Columns : Int) (a_Sick : List Int) (a_Frozen : List Int) : Option ((List (Int × Int × Int × Int)) × Int) :=
  (f24 m a_Rows a_Columns a_Sick a_Frozen).bind fun r1 =>
    cond (r1.2.2.2.2.2.2 != 0) (
      some ([], r1.2.2.2.2.2.2)
    ) (
      cond (r1.2.2.2.2.2.1 != 0) (
        some ([], 13)
      ) (
        (f36 m r1.1 r1.2.1 r1.2.2.1 r1.2.2.2.1 r1.2.2.2.2.1 r1.2.2.2.2.2.1).bind fun r2 =>
          (f15_1 m m a_Sick a_Frozen r2 r1.1 r1.2.1 r1.2.2.1 r1.2.2.2.1 []).bind fun o1 =>
            some (o1, 0)
      )
    )

theorem f15_ok (m : Nat) (z0 : Nat) (y0 : Nat) (z1 : Nat) (y1 : Nat) (a_Rows : Int) (a_Columns : Int) (a_Sick : List Int) (a_Frozen : List Int) (o : (List (Int × Int × Int × Int)) × Int) (h : f15 m a_Rows a_Columns a_Sick a_Frozen = some o) : KC E0 15 [.agg #[ii a_Rows, ii a_Columns, s0 0 a_Sick.length, s0 1 a_Frozen.length]] [(1, rc (encI .i64) a_Frozen z1 y1 1), (0, rc (encI .i64) a_Sick z0 y0 1)] 2 (fun v h' c' => v = .tuple #[s0 2 o.1.length, ii o.2] ∧ h' = [(2, rc encR o.1 0 43 4)] ++ [(1, rc (encI .i64) a_Frozen z1 y1 1), (0, rc (encI .i64) a_Sick z0 y0 1)] ∧ c' = 3) := by
  refine KC.bodyN E0_ok (F := Proofs.Tryz.f15) (by kernel_rfl) (code := f15_C15) (by kernel_rfl) (nt := 137) (by kernel_rfl) (rs := [.tmp 2, .tmp 3]) (by kernel_rfl) (by kernel_rfl) (σ := [(0, .agg #[ii a_Rows, ii a_Columns, s0 0 a_Sick.length, s0 1 a_Frozen.length])]) (by kernel_rfl) ?_
  unfold f15 at h
  refine XQ.seq E0_ok (by kernel_rfl) ?_
  refine XQ.region (by kernel_rfl) ?_
  refine XR.runT E0_ok 1 3 [(1, pp 2 0)] [(2, .cells [ii a_Rows, ii a_Columns, s0 0 a_Sick.length, s0 1 a_Frozen.length] 0 29 0), (1, rc (encI .i64) a_Frozen z1 y1 1), (0, rc (encI .i64) a_Sick z0 y0 1)] 3 rfl (by kernel_rfl) ?_
  refine XR.done (by kernel_rfl) ?_
  show XQ _ _ _ _ _ _ _ _
  refine XQ.seq E0_ok (by kernel_rfl) ?_
  refine XQ.region (by kernel_rfl) ?_
  refine XR.runS E0_ok 1 1 [(16, .agg #[ii a_Rows, ii a_Columns, s0 0 a_Sick.length, s0 1 a_Frozen.length])] rfl (by kernel_rfl) ?_
  obtain ⟨r1, r1_h, h⟩ := bS h
  refine XR.call E0_ok [17] rfl (K := 24) (args := [.agg #[ii a_Rows, ii a_Columns, s0 0 a_Sick.length, s0 1 a_Frozen.length]]) (d := (some (path 12 17))) (by kernel_rfl) (KC.liftH (n0 := 2) (m := 1) (args0 := [.agg #[ii a_Rows, ii a_Columns, s0 0 a_Sick.length, s0 1 a_Frozen.length]]) (h0 := [(1, rc (encI .i64) a_Frozen (z1 + ((rowC (encI .i64) a_Frozen).length + 1)) y1 1), (0, rc (encI .i64) a_Sick (z0 + ((rowC (encI .i64) a_Sick).length + 1)) y0 1)]) (V := .tuple #[pp 2 0, .agg #[.int .u32 r1.2.2.2.2.1, .int .u32 r1.2.2.2.2.2.1], ii r1.2.2.2.2.2.2]) (V2 := .tuple #[pp 3 0, .agg #[.int .u32 r1.2.2.2.2.1, .int .u32 r1.2.2.2.2.2.1], ii r1.2.2.2.2.2.2]) (H := [(2, .cells ([ii r1.1, ii r1.2.1, ii r1.2.2.1] ++ rowC (encI .u32) r1.2.2.2.1) 0 72 0)]) (H2 := [(3, .cells ([ii r1.1, ii r1.2.1, ii r1.2.2.1] ++ rowC (encI .u32) r1.2.2.2.1) 0 72 0)]) [0, 1] [3, 4, 5, 2] (f24_ok m (z0 + ((rowC (encI .i64) a_Sick).length + 1)) y0 (z1 + ((rowC (encI .i64) a_Frozen).length + 1)) y1 a_Rows a_Columns a_Sick a_Frozen r1 r1_h) (by rfl) (by decide) rfl (by kernel_rfl) ⟨⟨_, _, rfl, rfl, .inl ⟨rfl, rowC_scal (encI_ok .i64) _⟩⟩, ⟨_, _, rfl, rfl, .inl ⟨rfl, rowC_scal (encI_ok .i64) _⟩⟩, trivial⟩ (by decide) (by decide) (by kernel_rfl) ⟨⟨_, _, rfl, rfl, .inl ⟨rfl, preC_scal rfl (rowC_scal (encI_ok .u32) _)⟩⟩, trivial⟩ (by rfl)) ?_
  rintro _ _ _ ⟨rfl, rfl, rfl⟩
  refine XR.conv (σ' := [(17, .tuple #[pp 3 0, .agg #[.int .u32 r1.2.2.2.2.1, .int .u32 r1.2.2.2.2.2.1], ii r1.2.2.2.2.2.2])]) (h' := [(3, .cells ([ii r1.1, ii r1.2.1, ii r1.2.2.1] ++ rowC (encI .u32) r1.2.2.2.1) 0 72 0), (2, .cells [ii a_Rows, ii a_Columns, s0 0 a_Sick.length, s0 1 a_Frozen.length] 0 29 0), (1, rc (encI .i64) a_Frozen z1 y1 1), (0, rc (encI .i64) a_Sick z0 y0 1)]) (c' := 4) ?_ (by kernel_rfl)
  refine XR.runT E0_ok 1 8 [(4, pp 3 0), (5, pp 4 0), (6, ii r1.2.2.2.2.2.2)] [(4, .cells [.int .u32 r1.2.2.2.2.1, .int .u32 r1.2.2.2.2.2.1] 0 63 0), (3, .cells ([ii r1.1, ii r1.2.1, ii r1.2.2.1] ++ rowC (encI .u32) r1.2.2.2.1) 0 72 0), (2, .cells [ii a_Rows, ii a_Columns, s0 0 a_Sick.length, s0 1 a_Frozen.length] 0 29 0), (1, rc (encI .i64) a_Frozen z1 y1 1), (0, rc (encI .i64) a_Sick z0 y0 1)] 5 rfl (by kernel_rfl) ?_
  refine XR.done (by kernel_rfl) ?_
  show XQ _ _ _ _ _ _ _ _
  refine XQ.seq E0_ok (by kernel_rfl) ?_
  refine XQ.block (id := 0) (by kernel_rfl) ?_
  refine XQ.seq E0_ok (by kernel_rfl) ?_
  refine XQ.region (by kernel_rfl) ?_
  refine XR.runS E0_ok 1 3 [(4, pp 3 0), (5, pp 4 0), (6, ii r1.2.2.2.2.2.2), (21, .bool (r1.2.2.2.2.2.2 != 0))] rfl (by kernel_rfl) ?_
  refine XR.done (by kernel_rfl) ?_
  show XQ _ _ _ _ _ _ _ _
  cases b1 : (r1.2.2.2.2.2.2 != 0 : Bool) with
  | true =>
    have h := cT b1 h
    refine XQ.cond (s := (.tmp 21)) (b := true) (by kernel_rfl) (by kernel_rfl) (fun _ => ?_) (fun q => by cases q)
    refine XQ.seq E0_ok (by kernel_rfl) ?_
    refine XQ.region (by kernel_rfl) ?_
    refine XR.runS E0_ok 1 3 [(2, .slice none 0 0), (3, ii r1.2.2.2.2.2.2)] rfl (by kernel_rfl) ?_
    refine XR.done (by kernel_rfl) ?_
    show XQ _ _ _ _ _ _ _ _
    refine XQ.ghost 43 4 rfl (σ' := [(2, s0 5 0), (3, ii r1.2.2.2.2.2.2)]) (h' := [(4, .cells [.int .u32 r1.2.2.2.2.1, .int .u32 r1.2.2.2.2.2.1] 0 63 0), (3, .cells ([ii r1.1, ii r1.2.1, ii r1.2.2.1] ++ rowC (encI .u32) r1.2.2.2.1) 0 72 0), (2, .cells [ii a_Rows, ii a_Columns, s0 0 a_Sick.length, s0 1 a_Frozen.length] 0 29 0), (1, rc (encI .i64) a_Frozen z1 y1 1), (0, rc (encI .i64) a_Sick z0 y0 1)]) ⟨by kernel_rfl, by kernel_rfl, trivial⟩ ⟨⟨_, rfl, .inl rfl⟩, ⟨_, rfl, .inl rfl⟩, ⟨_, rfl, .inl rfl⟩, ⟨_, rfl, .inl rfl⟩, ⟨_, rfl, .inl rfl⟩, trivial⟩ ?_
    refine XQ.conv (σ' := [(2, s0 5 0), (3, ii r1.2.2.2.2.2.2)]) (h' := [(5, rc encR [] 0 43 4), (4, .cells [.int .u32 r1.2.2.2.2.1, .int .u32 r1.2.2.2.2.2.1] 0 63 0), (3, .cells ([ii r1.1, ii r1.2.1, ii r1.2.2.1] ++ rowC (encI .u32) r1.2.2.2.1) 0 72 0), (2, .cells [ii a_Rows, ii a_Columns, s0 0 a_Sick.length, s0 1 a_Frozen.length] 0 29 0), (1, rc (encI .i64) a_Frozen z1 y1 1), (0, rc (encI .i64) a_Sick z0 y0 1)]) (c' := 6) ?_ (by kernel_rfl)
    refine XQ.ren (σ' := [(2, s0 2 0), (3, ii r1.2.2.2.2.2.2)]) (h' := [(2, rc encR [] 0 43 4), (1, rc (encI .i64) a_Frozen z1 y1 1), (0, rc (encI .i64) a_Sick z0 y0 1)]) (c' := 3) [0, 1, 5] (by decide) rfl ⟨by kernel_rfl, by kernel_rfl, trivial⟩ ⟨⟨_, _, rfl, rfl, .inl ⟨rfl, rowC_scal encR_ok _⟩⟩, ⟨_, _, rfl, rfl, .inl ⟨rfl, rowC_scal (encI_ok .i64) _⟩⟩, ⟨_, _, rfl, rfl, .inl ⟨rfl, rowC_scal (encI_ok .i64) _⟩⟩, trivial⟩ rfl ?_
    refine XQ.ret (by kernel_rfl) ?_
    have h := Option.some.inj h
    subst h
    exact ⟨fun i q => (by cases q), .tuple #[s0 2 0, ii r1.2.2.2.2.2.2], (by kernel_rfl), (by kernel_rfl), (by kernel_rfl), rfl⟩
  | false =>
    have h := cF b1 h
    refine XQ.cond (s := (.tmp 21)) (b := false) (by kernel_rfl) (by kernel_rfl) (fun q => by cases q) (fun _ => ?_)
    refine XQ.seq E0_ok (by kernel_rfl) ?_
    refine XQ.region (by kernel_rfl) ?_
    refine XR.runS E0_ok 1 4 [(4, pp 3 0), (5, pp 4 0), (25, .bool (r1.2.2.2.2.2.1 != 0))] rfl (by kernel_rfl) ?_
    refine XR.done (by kernel_rfl) ?_
    show XQ _ _ _ _ _ _ _ _
    cases b2 : (r1.2.2.2.2.2.1 != 0 : Bool) with
    | true =>
      have h := cT b2 h
      refine XQ.cond (s := (.tmp 25)) (b := true) (by kernel_rfl) (by kernel_rfl) (fun _ => ?_) (fun q => by cases q)
      refine XQ.seq E0_ok (by kernel_rfl) ?_
      refine XQ.region (by kernel_rfl) ?_
      refine XR.runS E0_ok 1 2 [(2, .slice none 0 0), (3, ii 13)] rfl (by kernel_rfl) ?_
      refine XR.done (by kernel_rfl) ?_
      show XQ _ _ _ _ _ _ _ _
      refine XQ.ghost 43 4 rfl (σ' := [(2, s0 5 0), (3, ii 13)]) (h' := [(4, .cells [.int .u32 r1.2.2.2.2.1, .int .u32 r1.2.2.2.2.2.1] 0 63 0), (3, .cells ([ii r1.1, ii r1.2.1, ii r1.2.2.1] ++ rowC (encI .u32) r1.2.2.2.1) 0 72 0), (2, .cells [ii a_Rows, ii a_Columns, s0 0 a_Sick.length, s0 1 a_Frozen.length] 0 29 0), (1, rc (encI .i64) a_Frozen z1 y1 1), (0, rc (encI .i64) a_Sick z0 y0 1)]) ⟨by kernel_rfl, by kernel_rfl, trivial⟩ ⟨⟨_, rfl, .inl rfl⟩, ⟨_, rfl, .inl rfl⟩, ⟨_, rfl, .inl rfl⟩, ⟨_, rfl, .inl rfl⟩, ⟨_, rfl, .inl rfl⟩, trivial⟩ ?_
      refine XQ.conv (σ' := [(2, s0 5 0), (3, ii 13)]) (h' := [(5, rc encR [] 0 43 4), (4, .cells [.int .u32 r1.2.2.2.2.1, .int .u32 r1.2.2.2.2.2.1] 0 63 0), (3, .cells ([ii r1.1, ii r1.2.1, ii r1.2.2.1] ++ rowC (encI .u32) r1.2.2.2.1) 0 72 0), (2, .cells [ii a_Rows, ii a_Columns, s0 0 a_Sick.length, s0 1 a_Frozen.length] 0 29 0), (1, rc (encI .i64) a_Frozen z1 y1 1), (0, rc (encI .i64) a_Sick z0 y0 1)]) (c' := 6) ?_ (by kernel_rfl)
      refine XQ.ren (σ' := [(2, s0 2 0), (3, ii 13)]) (h' := [(2, rc encR [] 0 43 4), (1, rc (encI .i64) a_Frozen z1 y1 1), (0, rc (encI .i64) a_Sick z0 y0 1)]) (c' := 3) [0, 1, 5] (by decide) rfl ⟨by kernel_rfl, by kernel_rfl, trivial⟩ ⟨⟨_, _, rfl, rfl, .inl ⟨rfl, rowC_scal encR_ok _⟩⟩, ⟨_, _, rfl, rfl, .inl ⟨rfl, rowC_scal (encI_ok .i64) _⟩⟩, ⟨_, _, rfl, rfl, .inl ⟨rfl, rowC_scal (encI_ok .i64) _⟩⟩, trivial⟩ rfl ?_
      refine XQ.ret (by kernel_rfl) ?_
      have h := Option.some.inj h
      subst h
      exact ⟨fun i q => (by cases q), .tuple #[s0 2 0, ii 13], (by kernel_rfl), (by kernel_rfl), (by kernel_rfl), rfl⟩
    | false =>
      have h := cF b2 h
      refine XQ.cond (s := (.tmp 25)) (b := false) (by kernel_rfl) (by kernel_rfl) (fun q => by cases q) (fun _ => ?_)
      refine XQ.skip (by kernel_rfl) ?_
      show XQ _ _ _ _ _ _ _ _
      refine XQ.seq E0_ok (by kernel_rfl) ?_
      refine XQ.region (by kernel_rfl) ?_
      refine XR.runS E0_ok 1 1 [(4, pp 3 0), (5, pp 4 0), (7, .slice none 0 0)] rfl (by kernel_rfl) ?_
      refine XR.done (by kernel_rfl) ?_
      show XQ _ _ _ _ _ _ _ _
      refine XQ.ghost 43 4 rfl (σ' := [(4, pp 3 0), (5, pp 4 0), (7, s0 5 0)]) (h' := [(4, .cells [.int .u32 r1.2.2.2.2.1, .int .u32 r1.2.2.2.2.2.1] 0 63 0), (3, .cells ([ii r1.1, ii r1.2.1, ii r1.2.2.1] ++ rowC (encI .u32) r1.2.2.2.1) 0 72 0), (2, .cells [ii a_Rows, ii a_Columns, s0 0 a_Sick.length, s0 1 a_Frozen.length] 0 29 0), (1, rc (encI .i64) a_Frozen z1 y1 1), (0, rc (encI .i64) a_Sick z0 y0 1)]) ⟨by kernel_rfl, by kernel_rfl, by kernel_rfl, trivial⟩ ⟨⟨_, rfl, .inl rfl⟩, ⟨_, rfl, .inl rfl⟩, ⟨_, rfl, .inl rfl⟩, ⟨_, rfl, .inl rfl⟩, ⟨_, rfl, .inl rfl⟩, trivial⟩ ?_
      refine XQ.conv (σ' := [(4, pp 3 0), (5, pp 4 0), (7, s0 5 0)]) (h' := [(5, rc encR [] 0 43 4), (4, .cells [.int .u32 r1.2.2.2.2.1, .int .u32 r1.2.2.2.2.2.1] 0 63 0), (3, .cells ([ii r1.1, ii r1.2.1, ii r1.2.2.1] ++ rowC (encI .u32) r1.2.2.2.1) 0 72 0), (2, .cells [ii a_Rows, ii a_Columns, s0 0 a_Sick.length, s0 1 a_Frozen.length] 0 29 0), (1, rc (encI .i64) a_Frozen z1 y1 1), (0, rc (encI .i64) a_Sick z0 y0 1)]) (c' := 6) ?_ (by kernel_rfl)
      refine XQ.seq E0_ok (by kernel_rfl) ?_
      refine XQ.seq E0_ok (by kernel_rfl) ?_
      refine XQ.region (by kernel_rfl) ?_
      refine XR.runS E0_ok 1 2 [(4, pp 3 0), (7, s0 5 0), (29, pp 3 0), (30, .agg #[.int .u32 r1.2.2.2.2.1, .int .u32 r1.2.2.2.2.2.1])] rfl (by kernel_rfl) ?_
      obtain ⟨r2, r2_h, h⟩ := bS h
      refine XR.call E0_ok [4, 7, 31] rfl (K := 36) (args := [pp 3 0, .agg #[.int .u32 r1.2.2.2.2.1, .int .u32 r1.2.2.2.2.2.1]]) (d := (some (path 12 31))) (by kernel_rfl) (KQ.call (KC.quiet E0_ok (args0 := [pp 0 0, .agg #[.int .u32 r1.2.2.2.2.1, .int .u32 r1.2.2.2.2.2.1]]) (h0 := [(0, .cells ([ii r1.1, ii r1.2.1, ii r1.2.2.1] ++ rowC (encI .u32) r1.2.2.2.1) (0 + (([ii r1.1, ii r1.2.1, ii r1.2.2.1] ++ rowC (encI .u32) r1.2.2.2.1).length + 1)) 72 0)]) (n := 1) (V := .int .u32 r2) [3] (f36_ok m (0 + (([ii r1.1, ii r1.2.1, ii r1.2.2.1] ++ rowC (encI .u32) r1.2.2.2.1).length + 1)) r1.1 r1.2.1 r1.2.2.1 r1.2.2.2.1 r1.2.2.2.2.1 r1.2.2.2.2.2.1 r2 r2_h) rfl (by rfl) (by decide) rfl (by kernel_rfl) ⟨⟨_, _, rfl, rfl, .inl ⟨rfl, preC_scal rfl (rowC_scal (encI_ok .u32) _)⟩⟩, trivial⟩) rfl) ?_
      rintro _ _ _ ⟨rfl, rfl, rfl⟩
      refine XR.conv (σ' := [(4, pp 3 0), (7, s0 5 0), (31, .int .u32 r2)]) (h' := [(5, rc encR [] 0 43 4), (4, .cells [.int .u32 r1.2.2.2.2.1, .int .u32 r1.2.2.2.2.2.1] 0 63 0), (3, .cells ([ii r1.1, ii r1.2.1, ii r1.2.2.1] ++ rowC (encI .u32) r1.2.2.2.1) 0 72 0), (2, .cells [ii a_Rows, ii a_Columns, s0 0 a_Sick.length, s0 1 a_Frozen.length] 0 29 0), (1, rc (encI .i64) a_Frozen z1 y1 1), (0, rc (encI .i64) a_Sick z0 y0 1)]) (c' := 6) ?_ (by kernel_rfl)
      refine XR.runS E0_ok 1 1 [(4, pp 3 0), (7, s0 5 0), (8, .int .u32 r2)] rfl (by kernel_rfl) ?_
      refine XR.done (by kernel_rfl) ?_
      show XQ _ _ _ _ _ _ _ _
      refine XQ.block (id := 1) (by kernel_rfl) ?_
      refine XQ.loop m (by kernel_rfl) ?_
      obtain ⟨o1, o1_h, h⟩ := bS h
      refine XL.ren (σ' := [(4, pp 2 0), (7, s0 3 0), (8, .int .u32 r2)]) (h' := [(3, rc encR [] 0 43 4), (2, .cells ([ii r1.1, ii r1.2.1, ii r1.2.2.1] ++ rowC (encI .u32) r1.2.2.2.1) 0 72 0), (1, rc (encI .i64) a_Frozen z1 y1 1), (0, rc (encI .i64) a_Sick z0 y0 1)]) (c' := 4) [0, 1, 3, 5] (by decide) rfl ⟨by kernel_rfl, by kernel_rfl, by kernel_rfl, trivial⟩ ⟨⟨_, _, rfl, rfl, .inl ⟨rfl, rowC_scal encR_ok _⟩⟩, ⟨_, _, rfl, rfl, .inl ⟨rfl, preC_scal rfl (rowC_scal (encI_ok .u32) _)⟩⟩, ⟨_, _, rfl, rfl, .inl ⟨rfl, rowC_scal (encI_ok .i64) _⟩⟩, ⟨_, _, rfl, rfl, .inl ⟨rfl, rowC_scal (encI_ok .i64) _⟩⟩, trivial⟩ rfl ?_
      refine XL.conv (f15_1_ok m m z0 y0 z1 y1 a_Sick a_Frozen r2 r1.1 r1.2.1 r1.2.2.1 r1.2.2.2.1 [] o1 o1_h _ ?_) (by first | with_reducible rfl | simp | rfl)
      show XQ _ _ _ _ _ _ _ _
      refine XQ.seq E0_ok (by kernel_rfl) ?_
      refine XQ.region (by kernel_rfl) ?_
      refine XR.runS E0_ok 1 3 [(2, s0 2 o1.length), (3, ii 0)] rfl (by kernel_rfl) ?_
      refine XR.done (by kernel_rfl) ?_
      show XQ _ _ _ _ _ _ _ _
      refine XQ.ren (σ' := [(2, s0 2 o1.length), (3, ii 0)]) (h' := [(2, rc encR o1 0 43 4), (1, rc (encI .i64) a_Frozen z1 y1 1), (0, rc (encI .i64) a_Sick z0 y0 1)]) (c' := 3) [0, 1, 2] (by decide) rfl ⟨by kernel_rfl, by kernel_rfl, trivial⟩ ⟨⟨_, _, rfl, rfl, .inl ⟨rfl, rowC_scal encR_ok _⟩⟩, ⟨_, _, rfl, rfl, .inl ⟨rfl, rowC_scal (encI_ok .i64) _⟩⟩, ⟨_, _, rfl, rfl, .inl ⟨rfl, rowC_scal (encI_ok .i64) _⟩⟩, trivial⟩ rfl ?_
      refine XQ.ret (by kernel_rfl) ?_
      have h := Option.some.inj h
      subst h
      exact ⟨fun i q => (by cases q), .tuple #[s0 2 o1.length, ii 0], (by kernel_rfl), (by kernel_rfl), (by kernel_rfl), rfl⟩

/-! vitola/beetle.Idle -/
noncomputable def f16_C16 : Code := Proofs.Tryz.f16.body.getD .skip
noncomputable def f16_L1 : Code := lft (lft (rgt (lft (rgt (rgt (rgt (rgt f16_C16)))))))

def f16_1 (m : Nat) : Nat → List Int → List Int → Int → Int → Int → Int → Int → List Int → Int → Int → List Int → List Int → Option (List Int)
  | 0, _, _, _, _, _, _, _, _, _, _, _, _ => none
  | fuel + 1, a_Sick, a_Frozen, x23_1, x24_1, xh2_0_1, xh2_1_1, xh2_2_1, lh2_1, xh3_0_1, xh3_1_1, lh4_1, lh5_1 =>
    cond (decide (x24_1 < x23_1)) (
      cond (inRow x24_1 lh5_1.length) (
        cond (decide (0 ≤ List.getD lh5_1 (Int.toNat x24_1) 0)) (
          (f36 m xh2_0_1 xh2_1_1 xh2_2_1 lh2_1 (andNotV .u32 xh3_0_1 (shV true .u32 1 (List.getD lh5_1 (Int.toNat x24_1) 0))) xh3_1_1).bind fun r7 =>
            (f40 m r7 (List.getD lh5_1 (Int.toNat x24_1) 0)).bind fun r8 =>
              cond (r8) (
                cond (fitsB (lh4_1.length + 1) 8) (
                  f16_1 m fuel a_Sick a_Frozen x23_1 (w64 (x24_1 + 1)) xh2_0_1 xh2_1_1 xh2_2_1 lh2_1 xh3_0_1 xh3_1_1 (lh4_1 ++ [List.getD lh5_1 (Int.toNat x24_1) 0]) lh5_1
                ) none
              ) (
                f16_1 m fuel a_Sick a_Frozen x23_1 (w64 (x24_1 + 1)) xh2_0_1 xh2_1_1 xh2_2_1 lh2_1 xh3_0_1 xh3_1_1 lh4_1 lh5_1
              )
        ) none
      ) none
    ) (
      some (lh4_1)
    )

theorem f16_1_ok (m : Nat) : ∀ (fuel : Nat) (z0 : Nat) (y0 : Nat) (z1 : Nat) (y1 : Nat) (a_Sick : List Int) (a_Frozen : List Int) (x23_1 : Int) (x24_1 : Int) (xh2_0_1 : Int) (xh2_1_1 : Int) (xh2_2_1 : Int) (lh2_1 : List Int) (xh3_0_1 : Int) (xh3_1_1 : Int) (lh4_1 : List Int) (lh5_1 : List Int) (o : (List Int)), f16_1 m fuel a_Sick a_Frozen x23_1 x24_1 xh2_0_1 xh2_1_1 xh2_2_1 lh2_1 xh3_0_1 xh3_1_1 lh4_1 lh5_1 = some o → ∀ Q : QP, Q (.exit 0) [(7, s0 2 o.length)] [(2, rc (encI .i64) o 0 3 1), (1, rc (encI .i64) a_Frozen z1 y1 1), (0, rc (encI .i64) a_Sick z0 y0 1)] 3 → XL E0 47 2 fuel f16_L1 [(4, pp 2 0), (5, pp 3 0), (7, s0 4 lh4_1.length), (22, s0 5 lh5_1.length), (23, ii x23_1), (24, ii x24_1)] [(5, rc (encI .i64) lh5_1 0 3 1), (4, rc (encI .i64) lh4_1 0 3 1), (3, .cells [.int .u32 xh3_0_1, .int .u32 xh3_1_1] 0 63 0), (2, .cells ([ii xh2_0_1, ii xh2_1_1, ii xh2_2_1] ++ rowC (encI .u32) lh2_1) 0 72 0), (1, rc (encI .i64) a_Frozen z1 y1 1), (0, rc (encI .i64) a_Sick z0 y0 1)] 6 Q
  | 0, z0, y0, z1, y1, a_Sick, a_Frozen, x23_1, x24_1, xh2_0_1, xh2_1_1, xh2_2_1, lh2_1, xh3_0_1, xh3_1_1, lh4_1, lh5_1, o, h, Q, hQ => by cases h
  | fuel + 1, z0, y0, z1, y1, a_Sick, a_Frozen, x23_1, x24_1, xh2_0_1, xh2_1_1, xh2_2_1, lh2_1, xh3_0_1, xh3_1_1, lh4_1, lh5_1, o, h, Q, hQ => by
    unfold f16_1 at h
    refine XL.succ E0_ok ?_
    refine XQ.seq E0_ok (by kernel_rfl) ?_
    refine XQ.region (by kernel_rfl) ?_
    refine XR.runS E0_ok 1 1 [(4, pp 2 0), (5, pp 3 0), (7, s0 4 lh4_1.length), (22, s0 5 lh5_1.length), (23, ii x23_1), (24, ii x24_1), (25, .bool (decide (x24_1 < x23_1)))] rfl (by kernel_rfl) ?_
    refine XR.done (by kernel_rfl) ?_
    show XQ _ _ _ _ _ _ _ _
    refine XQ.seq E0_ok (by kernel_rfl) ?_
    cases b1 : (decide (x24_1 < x23_1) : Bool) with
    | true =>
      have h := cT b1 h
      refine XQ.cond (s := (.tmp 25)) (b := true) (by kernel_rfl) (by kernel_rfl) (fun _ => ?_) (fun q => by cases q)
      refine XQ.skip (by kernel_rfl) ?_
      show XQ _ _ _ _ _ _ _ _
      refine XQ.seq E0_ok (by kernel_rfl) ?_
      refine XQ.block (id := 1) (by kernel_rfl) ?_
      refine XQ.seq E0_ok (by kernel_rfl) ?_
      refine XQ.region (by kernel_rfl) ?_
      cases b2 : (inRow x24_1 lh5_1.length : Bool) with
      | false => cases (cF b2 h)
      | true =>
        have h := cT b2 h
        refine XR.rd E0_ok [4, 5, 7, 22, 23, 24, 26] rfl (v := pp 5 ((Int.toNat x24_1) * 1)) (v_idx (s := 1) (x := (src 47 (.tmp 22))) (y := (src 47 (.tmp 24))) (b := 5) (o := 0) (len := lh5_1.length) (cap := lh5_1.length) (ik := .i64) (i := x24_1) (off := (Int.toNat x24_1) * 1) (d := (some (path 12 26))) (by kernel_rfl) (by kernel_rfl) (by kernel_rfl) b2 (by omega)) (σ' := [(4, pp 2 0), (5, pp 3 0), (7, s0 4 lh4_1.length), (22, s0 5 lh5_1.length), (23, ii x23_1), (24, ii x24_1), (26, pp 5 ((Int.toNat x24_1) * 1))]) (by kernel_rfl) ?_
        refine XR.rd E0_ok [4, 5, 7, 22, 23, 24, 27] rfl (v := ii (List.getD lh5_1 (Int.toNat x24_1) 0)) (v_load1 (encI_ok .i64) (x := (src 47 (.tmp 26))) (b := 5) (off := (Int.toNat x24_1) * 1) (xs := lh5_1) (fz := 0) (e := 3) (es := 1) (d := (some (path 12 27))) (by kernel_rfl) (by kernel_rfl) (by kernel_rfl) (Int.toNat x24_1) 0 0 (by first | with_reducible rfl | omega | rfl) (row_len (inRow_toNat b2) (by simp)) rfl rfl) (σ' := [(4, pp 2 0), (5, pp 3 0), (7, s0 4 lh4_1.length), (22, s0 5 lh5_1.length), (23, ii x23_1), (24, ii x24_1), (27, ii (List.getD lh5_1 (Int.toNat x24_1) 0))]) (by kernel_rfl) ?_
        refine XR.runS E0_ok 1 1 [(4, pp 2 0), (5, pp 3 0), (7, s0 4 lh4_1.length), (9, ii (List.getD lh5_1 (Int.toNat x24_1) 0)), (22, s0 5 lh5_1.length), (23, ii x23_1), (24, ii x24_1)] rfl (by kernel_rfl) ?_
        refine XR.done (by kernel_rfl) ?_
        show XQ _ _ _ _ _ _ _ _
        refine XQ.seq E0_ok (by kernel_rfl) ?_
        cases b3 : (decide (0 ≤ List.getD lh5_1 (Int.toNat x24_1) 0) : Bool) with
        | false => cases (cF b3 h)
        | true =>
          have h := cT b3 h
          refine XQ.preA E0_ok [0, 2, 3, 5] (by kernel_rfl) (g := 6) (listed := #[true, false, true, true, false, true, false, false, false, false]) (by kernel_rfl) (by kernel_rfl) (by kernel_rfl) (by kernel_rfl) (by kernel_rfl) (σ' := [(4, pp 2 0), (5, pp 3 0), (7, s0 4 lh4_1.length), (9, ii (List.getD lh5_1 (Int.toNat x24_1) 0)), (10, pp 5 0), (22, s0 6 lh5_1.length), (23, ii x23_1), (24, ii x24_1)]) (h' := [(6, rc (encI .i64) lh5_1 0 3 1), (5, .cells [.int .u32 (andNotV .u32 xh3_0_1 (shV true .u32 1 (List.getD lh5_1 (Int.toNat x24_1) 0))), .int .u32 xh3_1_1] 0 63 0), (4, rc (encI .i64) lh4_1 0 3 1), (3, .cells [.int .u32 xh3_0_1, .int .u32 xh3_1_1] 0 63 0), (2, .cells ([ii xh2_0_1, ii xh2_1_1, ii xh2_2_1] ++ rowC (encI .u32) lh2_1) 0 72 0), (1, rc (encI .i64) a_Frozen z1 y1 1), (0, rc (encI .i64) a_Sick z0 y0 1)]) (c' := 7) ?_ ?_
          · show XQ _ _ _ _ _ _ _ _
            refine XQ.seq E0_ok (by kernel_rfl) ?_
            refine XQ.region (by kernel_rfl) ?_
            refine XR.runS E0_ok 1 2 [(4, pp 2 0), (5, pp 3 0), (7, s0 4 lh4_1.length), (9, ii (List.getD lh5_1 (Int.toNat x24_1) 0)), (22, s0 6 lh5_1.length), (23, ii x23_1), (24, ii x24_1), (36, pp 2 0), (37, .agg #[.int .u32 (andNotV .u32 xh3_0_1 (shV true .u32 1 (List.getD lh5_1 (Int.toNat x24_1) 0))), .int .u32 xh3_1_1])] rfl (by kernel_rfl) ?_
            obtain ⟨r7, r7_h, h⟩ := bS h
            refine XR.call E0_ok [4, 5, 7, 9, 22, 23, 24, 38] rfl (K := 36) (args := [pp 2 0, .agg #[.int .u32 (andNotV .u32 xh3_0_1 (shV true .u32 1 (List.getD lh5_1 (Int.toNat x24_1) 0))), .int .u32 xh3_1_1]]) (d := (some (path 12 38))) (by kernel_rfl) (KQ.call (KC.quiet E0_ok (args0 := [pp 0 0, .agg #[.int .u32 (andNotV .u32 xh3_0_1 (shV true .u32 1 (List.getD lh5_1 (Int.toNat x24_1) 0))), .int .u32 xh3_1_1]]) (h0 := [(0, .cells ([ii xh2_0_1, ii xh2_1_1, ii xh2_2_1] ++ rowC (encI .u32) lh2_1) (0 + (([ii xh2_0_1, ii xh2_1_1, ii xh2_2_1] ++ rowC (encI .u32) lh2_1).length + 1)) 72 0)]) (n := 1) (V := .int .u32 r7) [2] (f36_ok m (0 + (([ii xh2_0_1, ii xh2_1_1, ii xh2_2_1] ++ rowC (encI .u32) lh2_1).length + 1)) xh2_0_1 xh2_1_1 xh2_2_1 lh2_1 (andNotV .u32 xh3_0_1 (shV true .u32 1 (List.getD lh5_1 (Int.toNat x24_1) 0))) xh3_1_1 r7 r7_h) rfl (by rfl) (by decide) rfl (by kernel_rfl) ⟨⟨_, _, rfl, rfl, .inl ⟨rfl, preC_scal rfl (rowC_scal (encI_ok .u32) _)⟩⟩, trivial⟩) rfl) ?_
            rintro _ _ _ ⟨rfl, rfl, rfl⟩
            refine XR.conv (σ' := [(4, pp 2 0), (5, pp 3 0), (7, s0 4 lh4_1.length), (9, ii (List.getD lh5_1 (Int.toNat x24_1) 0)), (22, s0 6 lh5_1.length), (23, ii x23_1), (24, ii x24_1), (38, .int .u32 r7)]) (h' := [(6, rc (encI .i64) lh5_1 0 3 1), (5, .cells [.int .u32 (andNotV .u32 xh3_0_1 (shV true .u32 1 (List.getD lh5_1 (Int.toNat x24_1) 0))), .int .u32 xh3_1_1] 0 63 0), (4, rc (encI .i64) lh4_1 0 3 1), (3, .cells [.int .u32 xh3_0_1, .int .u32 xh3_1_1] 0 63 0), (2, .cells ([ii xh2_0_1, ii xh2_1_1, ii xh2_2_1] ++ rowC (encI .u32) lh2_1) 0 72 0), (1, rc (encI .i64) a_Frozen z1 y1 1), (0, rc (encI .i64) a_Sick z0 y0 1)]) (c' := 7) ?_ (by kernel_rfl)
            refine XR.runS E0_ok 1 1 [(4, pp 2 0), (5, pp 3 0), (7, s0 4 lh4_1.length), (9, ii (List.getD lh5_1 (Int.toNat x24_1) 0)), (22, s0 6 lh5_1.length), (23, ii x23_1), (24, ii x24_1), (38, .int .u32 r7), (39, ii (List.getD lh5_1 (Int.toNat x24_1) 0))] rfl (by kernel_rfl) ?_
            obtain ⟨r8, r8_h, h⟩ := bS h
            refine XR.call E0_ok [4, 5, 7, 9, 22, 23, 24, 40] rfl (K := 40) (args := [.int .u32 r7, ii (List.getD lh5_1 (Int.toNat x24_1) 0)]) (d := (some (path 12 40))) (by kernel_rfl) (KC.of_calls E0_ok (F := Proofs.Tryz.f40) (v := .bool r8) (by kernel_rfl) rfl rfl (fun w hI => f40_ok m r7 (List.getD lh5_1 (Int.toNat x24_1) 0) r8 r8_h w hI)) ?_
            rintro _ _ _ ⟨rfl, rfl, rfl⟩
            refine XR.conv (σ' := [(4, pp 2 0), (5, pp 3 0), (7, s0 4 lh4_1.length), (9, ii (List.getD lh5_1 (Int.toNat x24_1) 0)), (22, s0 6 lh5_1.length), (23, ii x23_1), (24, ii x24_1), (40, .bool r8)]) (h' := [(6, rc (encI .i64) lh5_1 0 3 1), (5, .cells [.int .u32 (andNotV .u32 xh3_0_1 (shV true .u32 1 (List.getD lh5_1 (Int.toNat x24_1) 0))), .int .u32 xh3_1_1] 0 63 0), (4, rc (encI .i64) lh4_1 0 3 1), (3, .cells [.int .u32 xh3_0_1, .int .u32 xh3_1_1] 0 63 0), (2, .cells ([ii xh2_0_1, ii xh2_1_1, ii xh2_2_1] ++ rowC (encI .u32) lh2_1) 0 72 0), (1, rc (encI .i64) a_Frozen z1 y1 1), (0, rc (encI .i64) a_Sick z0 y0 1)]) (c' := 7) ?_ (by kernel_rfl)
            refine XR.done (by kernel_rfl) ?_
            show XQ _ _ _ _ _ _ _ _
            cases b4 : (r8 : Bool) with
            | true =>
              have h := cT b4 h
              refine XQ.cond (s := (.tmp 40)) (b := true) (by kernel_rfl) (by kernel_rfl) (fun _ => ?_) (fun q => by cases q)
              refine XQ.region (by kernel_rfl) ?_
              refine XR.runT E0_ok 1 3 [(4, pp 2 0), (5, pp 3 0), (22, s0 6 lh5_1.length), (23, ii x23_1), (24, ii x24_1), (41, s0 4 lh4_1.length), (43, s0 7 1)] [(7, .cells [ii (List.getD lh5_1 (Int.toNat x24_1) 0)] 0 3 1), (6, rc (encI .i64) lh5_1 0 3 1), (5, .cells [.int .u32 (andNotV .u32 xh3_0_1 (shV true .u32 1 (List.getD lh5_1 (Int.toNat x24_1) 0))), .int .u32 xh3_1_1] 0 63 0), (4, rc (encI .i64) lh4_1 0 3 1), (3, .cells [.int .u32 xh3_0_1, .int .u32 xh3_1_1] 0 63 0), (2, .cells ([ii xh2_0_1, ii xh2_1_1, ii xh2_2_1] ++ rowC (encI .u32) lh2_1) 0 72 0), (1, rc (encI .i64) a_Frozen z1 y1 1), (0, rc (encI .i64) a_Sick z0 y0 1)] 8 rfl (by kernel_rfl) ?_
              cases b5 : (fitsB (lh4_1.length + 1) 8 : Bool) with
              | false => cases (cF b5 h)
              | true =>
                have h := cT b5 h
                refine XR.ef E0_ok [4, 5, 22, 23, 24, 44] rfl (e_append (encI_ok .i64) (bytes := 8) (e := 3) (x := (src 47 (.tmp 41))) (y := (src 47 (.tmp 43))) (b := 4) (len := lh4_1.length) (cap := lh4_1.length) (xs := lh4_1) (m := 0) (ys := [List.getD lh5_1 (Int.toNat x24_1) 0]) (d := (some (path 12 44))) (n' := (lh4_1 ++ [List.getD lh5_1 (Int.toNat x24_1) 0]).length) (h' := [(8, rc (encI .i64) (lh4_1 ++ [List.getD lh5_1 (Int.toNat x24_1) 0]) 0 3 1), (7, .cells [ii (List.getD lh5_1 (Int.toNat x24_1) 0)] 0 3 1), (6, rc (encI .i64) lh5_1 0 3 1), (5, .cells [.int .u32 (andNotV .u32 xh3_0_1 (shV true .u32 1 (List.getD lh5_1 (Int.toNat x24_1) 0))), .int .u32 xh3_1_1] 0 63 0), (3, .cells [.int .u32 xh3_0_1, .int .u32 xh3_1_1] 0 63 0), (2, .cells ([ii xh2_0_1, ii xh2_1_1, ii xh2_2_1] ++ rowC (encI .u32) lh2_1) 0 72 0), (1, rc (encI .i64) a_Frozen z1 y1 1), (0, rc (encI .i64) a_Sick z0 y0 1)]) (by kernel_rfl) (by kernel_rfl) (by kernel_rfl) (by kernel_rfl) rfl (by simp) (by simp) b5 (by simp) (by kernel_rfl)) (σ' := [(4, pp 2 0), (5, pp 3 0), (22, s0 6 lh5_1.length), (23, ii x23_1), (24, ii x24_1), (44, s0 8 ((lh4_1 ++ [List.getD lh5_1 (Int.toNat x24_1) 0]).length))]) (by kernel_rfl) ?_
                refine XR.runS E0_ok 1 1 [(4, pp 2 0), (5, pp 3 0), (7, s0 8 ((lh4_1 ++ [List.getD lh5_1 (Int.toNat x24_1) 0]).length)), (22, s0 6 lh5_1.length), (23, ii x23_1), (24, ii x24_1)] rfl (by kernel_rfl) ?_
                refine XR.done (by kernel_rfl) ?_
                show XQ _ _ _ _ _ _ _ _
                refine XQ.region (by kernel_rfl) ?_
                refine XR.runS E0_ok 1 2 [(4, pp 2 0), (5, pp 3 0), (7, s0 8 ((lh4_1 ++ [List.getD lh5_1 (Int.toNat x24_1) 0]).length)), (22, s0 6 lh5_1.length), (23, ii x23_1), (24, ii (w64 (x24_1 + 1)))] rfl (by kernel_rfl) ?_
                refine XR.done (by kernel_rfl) ?_
                show XL _ _ _ _ _ _ _ _ _
                refine XL.ren (σ' := [(4, pp 2 0), (5, pp 3 0), (7, s0 4 ((lh4_1 ++ [List.getD lh5_1 (Int.toNat x24_1) 0]).length)), (22, s0 5 lh5_1.length), (23, ii x23_1), (24, ii (w64 (x24_1 + 1)))]) (h' := [(5, rc (encI .i64) lh5_1 0 3 1), (4, rc (encI .i64) (lh4_1 ++ [List.getD lh5_1 (Int.toNat x24_1) 0]) 0 3 1), (3, .cells [.int .u32 xh3_0_1, .int .u32 xh3_1_1] 0 63 0), (2, .cells ([ii xh2_0_1, ii xh2_1_1, ii xh2_2_1] ++ rowC (encI .u32) lh2_1) 0 72 0), (1, rc (encI .i64) a_Frozen z1 y1 1), (0, rc (encI .i64) a_Sick z0 y0 1)]) (c' := 6) [0, 1, 2, 3, 8, 6] (by decide) rfl ⟨by kernel_rfl, by kernel_rfl, by kernel_rfl, by kernel_rfl, by kernel_rfl, by kernel_rfl, trivial⟩ ⟨⟨_, _, rfl, rfl, .inl ⟨rfl, rowC_scal (encI_ok .i64) _⟩⟩, ⟨_, _, rfl, rfl, .inl ⟨rfl, rowC_scal (encI_ok .i64) _⟩⟩, ⟨_, _, rfl, rfl, .inr ⟨_, _, _, _, rfl, rfl⟩⟩, ⟨_, _, rfl, rfl, .inl ⟨rfl, preC_scal rfl (rowC_scal (encI_ok .u32) _)⟩⟩, ⟨_, _, rfl, rfl, .inl ⟨rfl, rowC_scal (encI_ok .i64) _⟩⟩, ⟨_, _, rfl, rfl, .inl ⟨rfl, rowC_scal (encI_ok .i64) _⟩⟩, trivial⟩ rfl ?_
                refine XL.conv (f16_1_ok m fuel z0 y0 z1 y1 a_Sick a_Frozen x23_1 (w64 (x24_1 + 1)) xh2_0_1 xh2_1_1 xh2_2_1 lh2_1 xh3_0_1 xh3_1_1 (lh4_1 ++ [List.getD lh5_1 (Int.toNat x24_1) 0]) lh5_1 o h Q hQ) (by first | with_reducible rfl | simp | rfl)
            | false =>
              have h := cF b4 h
              refine XQ.cond (s := (.tmp 40)) (b := false) (by kernel_rfl) (by kernel_rfl) (fun q => by cases q) (fun _ => ?_)
              refine XQ.skip (by kernel_rfl) ?_
              show XQ _ _ _ _ _ _ _ _
              refine XQ.region (by kernel_rfl) ?_
              refine XR.runS E0_ok 1 2 [(4, pp 2 0), (5, pp 3 0), (7, s0 4 lh4_1.length), (22, s0 6 lh5_1.length), (23, ii x23_1), (24, ii (w64 (x24_1 + 1)))] rfl (by kernel_rfl) ?_
              refine XR.done (by kernel_rfl) ?_
              show XL _ _ _ _ _ _ _ _ _
              refine XL.ren (σ' := [(4, pp 2 0), (5, pp 3 0), (7, s0 4 lh4_1.length), (22, s0 5 lh5_1.length), (23, ii x23_1), (24, ii (w64 (x24_1 + 1)))]) (h' := [(5, rc (encI .i64) lh5_1 0 3 1), (4, rc (encI .i64) lh4_1 0 3 1), (3, .cells [.int .u32 xh3_0_1, .int .u32 xh3_1_1] 0 63 0), (2, .cells ([ii xh2_0_1, ii xh2_1_1, ii xh2_2_1] ++ rowC (encI .u32) lh2_1) 0 72 0), (1, rc (encI .i64) a_Frozen z1 y1 1), (0, rc (encI .i64) a_Sick z0 y0 1)]) (c' := 6) [0, 1, 2, 3, 4, 6] (by decide) rfl ⟨by kernel_rfl, by kernel_rfl, by kernel_rfl, by kernel_rfl, by kernel_rfl, by kernel_rfl, trivial⟩ ⟨⟨_, _, rfl, rfl, .inl ⟨rfl, rowC_scal (encI_ok .i64) _⟩⟩, ⟨_, _, rfl, rfl, .inl ⟨rfl, rowC_scal (encI_ok .i64) _⟩⟩, ⟨_, _, rfl, rfl, .inr ⟨_, _, _, _, rfl, rfl⟩⟩, ⟨_, _, rfl, rfl, .inl ⟨rfl, preC_scal rfl (rowC_scal (encI_ok .u32) _)⟩⟩, ⟨_, _, rfl, rfl, .inl ⟨rfl, rowC_scal (encI_ok .i64) _⟩⟩, ⟨_, _, rfl, rfl, .inl ⟨rfl, rowC_scal (encI_ok .i64) _⟩⟩, trivial⟩ rfl ?_
              refine XL.conv (f16_1_ok m fuel z0 y0 z1 y1 a_Sick a_Frozen x23_1 (w64 (x24_1 + 1)) xh2_0_1 xh2_1_1 xh2_2_1 lh2_1 xh3_0_1 xh3_1_1 lh4_1 lh5_1 o h Q hQ) (by first | with_reducible rfl | simp | rfl)
          · have xa6 : XA E0 47 2 (opsOf (lft (rgt (lft (lft (rgt (rgt f16_L1))))))) 0 #[true, true, true, true, true, true, true, true, true, true] [(4, pp 2 0), (5, pp 3 0), (7, s0 4 lh4_1.length), (9, ii (List.getD lh5_1 (Int.toNat x24_1) 0)), (10, pp 5 0), (22, s0 6 lh5_1.length), (23, ii x23_1), (24, ii x24_1)] [(6, rc (encI .i64) lh5_1 0 3 1), (5, .cells [.int .u32 (andNotV .u32 xh3_0_1 (shV true .u32 1 (List.getD lh5_1 (Int.toNat x24_1) 0))), .int .u32 xh3_1_1] 0 63 0), (4, rc (encI .i64) lh4_1 0 3 1), (3, .cells [.int .u32 xh3_0_1, .int .u32 xh3_1_1] 0 63 0), (2, .cells ([ii xh2_0_1, ii xh2_1_1, ii xh2_2_1] ++ rowC (encI .u32) lh2_1) 0 72 0), (1, rc (encI .i64) a_Frozen z1 y1 1), (0, rc (encI .i64) a_Sick z0 y0 1)] 7 (fun xe xσ xh xc => xe = .normal ∧ (xσ, xh, xc) = ([(4, pp 2 0), (5, pp 3 0), (7, s0 4 lh4_1.length), (9, ii (List.getD lh5_1 (Int.toNat x24_1) 0)), (10, pp 5 0), (22, s0 6 lh5_1.length), (23, ii x23_1), (24, ii x24_1)], [(6, rc (encI .i64) lh5_1 0 3 1), (5, .cells [.int .u32 (andNotV .u32 xh3_0_1 (shV true .u32 1 (List.getD lh5_1 (Int.toNat x24_1) 0))), .int .u32 xh3_1_1] 0 63 0), (4, rc (encI .i64) lh4_1 0 3 1), (3, .cells [.int .u32 xh3_0_1, .int .u32 xh3_1_1] 0 63 0), (2, .cells ([ii xh2_0_1, ii xh2_1_1, ii xh2_2_1] ++ rowC (encI .u32) lh2_1) 0 72 0), (1, rc (encI .i64) a_Frozen z1 y1 1), (0, rc (encI .i64) a_Sick z0 y0 1)], 7)) := by
              exact XA.done (by kernel_rfl) ⟨rfl, rfl⟩
            have xa5 : XA E0 47 2 (opsOf (lft (rgt (lft (lft (rgt (rgt f16_L1))))))) 1 #[true, true, true, true, true, true, true, true, true, false] [(4, pp 2 0), (5, pp 3 0), (7, s0 4 lh4_1.length), (9, ii (List.getD lh5_1 (Int.toNat x24_1) 0)), (10, pp 5 0), (22, s0 6 lh5_1.length), (23, ii x23_1), (24, ii x24_1), (35, .agg #[.int .u32 (andNotV .u32 xh3_0_1 (shV true .u32 1 (List.getD lh5_1 (Int.toNat x24_1) 0))), .int .u32 xh3_1_1])] [(6, rc (encI .i64) lh5_1 0 3 1), (5, .cells [.int .u32 0, .int .u32 0] 0 63 0), (4, rc (encI .i64) lh4_1 0 3 1), (3, .cells [.int .u32 xh3_0_1, .int .u32 xh3_1_1] 0 63 0), (2, .cells ([ii xh2_0_1, ii xh2_1_1, ii xh2_2_1] ++ rowC (encI .u32) lh2_1) 0 72 0), (1, rc (encI .i64) a_Frozen z1 y1 1), (0, rc (encI .i64) a_Sick z0 y0 1)] 7 (fun xe xσ xh xc => xe = .normal ∧ (xσ, xh, xc) = ([(4, pp 2 0), (5, pp 3 0), (7, s0 4 lh4_1.length), (9, ii (List.getD lh5_1 (Int.toNat x24_1) 0)), (10, pp 5 0), (22, s0 6 lh5_1.length), (23, ii x23_1), (24, ii x24_1)], [(6, rc (encI .i64) lh5_1 0 3 1), (5, .cells [.int .u32 (andNotV .u32 xh3_0_1 (shV true .u32 1 (List.getD lh5_1 (Int.toNat x24_1) 0))), .int .u32 xh3_1_1] 0 63 0), (4, rc (encI .i64) lh4_1 0 3 1), (3, .cells [.int .u32 xh3_0_1, .int .u32 xh3_1_1] 0 63 0), (2, .cells ([ii xh2_0_1, ii xh2_1_1, ii xh2_2_1] ++ rowC (encI .u32) lh2_1) 0 72 0), (1, rc (encI .i64) a_Frozen z1 y1 1), (0, rc (encI .i64) a_Sick z0 y0 1)], 7)) := by
              refine XA.step E0_ok [9] (by kernel_rfl) rfl (by kernel_rfl) ⟨?_, trivial⟩
              · refine XR.runT E0_ok 1 1 [(4, pp 2 0), (5, pp 3 0), (7, s0 4 lh4_1.length), (9, ii (List.getD lh5_1 (Int.toNat x24_1) 0)), (10, pp 5 0), (22, s0 6 lh5_1.length), (23, ii x23_1), (24, ii x24_1)] [(6, rc (encI .i64) lh5_1 0 3 1), (5, .cells [.int .u32 (andNotV .u32 xh3_0_1 (shV true .u32 1 (List.getD lh5_1 (Int.toNat x24_1) 0))), .int .u32 xh3_1_1] 0 63 0), (4, rc (encI .i64) lh4_1 0 3 1), (3, .cells [.int .u32 xh3_0_1, .int .u32 xh3_1_1] 0 63 0), (2, .cells ([ii xh2_0_1, ii xh2_1_1, ii xh2_2_1] ++ rowC (encI .u32) lh2_1) 0 72 0), (1, rc (encI .i64) a_Frozen z1 y1 1), (0, rc (encI .i64) a_Sick z0 y0 1)] 7 rfl (by kernel_rfl) ?_
                refine XR.done (by kernel_rfl) ?_
                refine ⟨rfl, ?_⟩
                show XA _ _ _ _ _ _ _ _ _ _
                exact xa6
            have xa4 : XA E0 47 2 (opsOf (lft (rgt (lft (lft (rgt (rgt f16_L1))))))) 2 #[true, true, true, true, true, true, true, true, false, false] [(4, pp 2 0), (5, pp 3 0), (7, s0 4 lh4_1.length), (9, ii (List.getD lh5_1 (Int.toNat x24_1) 0)), (22, s0 5 lh5_1.length), (23, ii x23_1), (24, ii x24_1), (35, .agg #[.int .u32 (andNotV .u32 xh3_0_1 (shV true .u32 1 (List.getD lh5_1 (Int.toNat x24_1) 0))), .int .u32 xh3_1_1])] [(5, rc (encI .i64) lh5_1 0 3 1), (4, rc (encI .i64) lh4_1 0 3 1), (3, .cells [.int .u32 xh3_0_1, .int .u32 xh3_1_1] 0 63 0), (2, .cells ([ii xh2_0_1, ii xh2_1_1, ii xh2_2_1] ++ rowC (encI .u32) lh2_1) 0 72 0), (1, rc (encI .i64) a_Frozen z1 y1 1), (0, rc (encI .i64) a_Sick z0 y0 1)] 6 (fun xe xσ xh xc => xe = .normal ∧ (xσ, xh, xc) = ([(4, pp 2 0), (5, pp 3 0), (7, s0 4 lh4_1.length), (9, ii (List.getD lh5_1 (Int.toNat x24_1) 0)), (10, pp 5 0), (22, s0 6 lh5_1.length), (23, ii x23_1), (24, ii x24_1)], [(6, rc (encI .i64) lh5_1 0 3 1), (5, .cells [.int .u32 (andNotV .u32 xh3_0_1 (shV true .u32 1 (List.getD lh5_1 (Int.toNat x24_1) 0))), .int .u32 xh3_1_1] 0 63 0), (4, rc (encI .i64) lh4_1 0 3 1), (3, .cells [.int .u32 xh3_0_1, .int .u32 xh3_1_1] 0 63 0), (2, .cells ([ii xh2_0_1, ii xh2_1_1, ii xh2_2_1] ++ rowC (encI .u32) lh2_1) 0 72 0), (1, rc (encI .i64) a_Frozen z1 y1 1), (0, rc (encI .i64) a_Sick z0 y0 1)], 7)) := by
              refine XA.step E0_ok [8] (by kernel_rfl) rfl (by kernel_rfl) ⟨?_, trivial⟩
              · refine XR.runT E0_ok 1 1 [(4, pp 2 0), (5, pp 3 0), (7, s0 4 lh4_1.length), (9, ii (List.getD lh5_1 (Int.toNat x24_1) 0)), (10, pp 6 0), (22, s0 5 lh5_1.length), (23, ii x23_1), (24, ii x24_1), (35, .agg #[.int .u32 (andNotV .u32 xh3_0_1 (shV true .u32 1 (List.getD lh5_1 (Int.toNat x24_1) 0))), .int .u32 xh3_1_1])] [(6, .cells [.int .u32 0, .int .u32 0] 0 63 0), (5, rc (encI .i64) lh5_1 0 3 1), (4, rc (encI .i64) lh4_1 0 3 1), (3, .cells [.int .u32 xh3_0_1, .int .u32 xh3_1_1] 0 63 0), (2, .cells ([ii xh2_0_1, ii xh2_1_1, ii xh2_2_1] ++ rowC (encI .u32) lh2_1) 0 72 0), (1, rc (encI .i64) a_Frozen z1 y1 1), (0, rc (encI .i64) a_Sick z0 y0 1)] 7 rfl (by kernel_rfl) ?_
                refine XR.done (by kernel_rfl) ?_
                refine ⟨rfl, ?_⟩
                show XA _ _ _ _ _ _ _ _ _ _
                refine XA.ren (σ' := [(4, pp 2 0), (5, pp 3 0), (7, s0 4 lh4_1.length), (9, ii (List.getD lh5_1 (Int.toNat x24_1) 0)), (10, pp 5 0), (22, s0 6 lh5_1.length), (23, ii x23_1), (24, ii x24_1), (35, .agg #[.int .u32 (andNotV .u32 xh3_0_1 (shV true .u32 1 (List.getD lh5_1 (Int.toNat x24_1) 0))), .int .u32 xh3_1_1])]) (h' := [(6, rc (encI .i64) lh5_1 0 3 1), (5, .cells [.int .u32 0, .int .u32 0] 0 63 0), (4, rc (encI .i64) lh4_1 0 3 1), (3, .cells [.int .u32 xh3_0_1, .int .u32 xh3_1_1] 0 63 0), (2, .cells ([ii xh2_0_1, ii xh2_1_1, ii xh2_2_1] ++ rowC (encI .u32) lh2_1) 0 72 0), (1, rc (encI .i64) a_Frozen z1 y1 1), (0, rc (encI .i64) a_Sick z0 y0 1)]) (c' := 7) [0, 1, 2, 3, 4, 6, 5] (by decide) rfl ⟨by kernel_rfl, by kernel_rfl, by kernel_rfl, by kernel_rfl, by kernel_rfl, by kernel_rfl, by kernel_rfl, by kernel_rfl, by kernel_rfl, trivial⟩ ⟨⟨_, _, rfl, rfl, .inl ⟨rfl, rowC_scal (encI_ok .i64) _⟩⟩, ⟨_, _, rfl, rfl, .inr ⟨_, _, _, _, rfl, rfl⟩⟩, ⟨_, _, rfl, rfl, .inl ⟨rfl, rowC_scal (encI_ok .i64) _⟩⟩, ⟨_, _, rfl, rfl, .inr ⟨_, _, _, _, rfl, rfl⟩⟩, ⟨_, _, rfl, rfl, .inl ⟨rfl, preC_scal rfl (rowC_scal (encI_ok .u32) _)⟩⟩, ⟨_, _, rfl, rfl, .inl ⟨rfl, rowC_scal (encI_ok .i64) _⟩⟩, ⟨_, _, rfl, rfl, .inl ⟨rfl, rowC_scal (encI_ok .i64) _⟩⟩, trivial⟩ rfl ?_
                exact xa5
            have xa7 : XA E0 47 2 (opsOf (lft (rgt (lft (lft (rgt (rgt f16_L1))))))) 2 #[true, true, true, true, true, true, true, false, true, false] [(4, pp 2 0), (5, pp 3 0), (7, s0 4 lh4_1.length), (9, ii (List.getD lh5_1 (Int.toNat x24_1) 0)), (10, pp 5 0), (22, s0 6 lh5_1.length), (23, ii x23_1), (24, ii x24_1), (32, .int .u32 (andNotV .u32 xh3_0_1 (shV true .u32 1 (List.getD lh5_1 (Int.toNat x24_1) 0)))), (34, .int .u32 xh3_1_1)] [(6, rc (encI .i64) lh5_1 0 3 1), (5, .cells [.int .u32 0, .int .u32 0] 0 63 0), (4, rc (encI .i64) lh4_1 0 3 1), (3, .cells [.int .u32 xh3_0_1, .int .u32 xh3_1_1] 0 63 0), (2, .cells ([ii xh2_0_1, ii xh2_1_1, ii xh2_2_1] ++ rowC (encI .u32) lh2_1) 0 72 0), (1, rc (encI .i64) a_Frozen z1 y1 1), (0, rc (encI .i64) a_Sick z0 y0 1)] 7 (fun xe xσ xh xc => xe = .normal ∧ (xσ, xh, xc) = ([(4, pp 2 0), (5, pp 3 0), (7, s0 4 lh4_1.length), (9, ii (List.getD lh5_1 (Int.toNat x24_1) 0)), (10, pp 5 0), (22, s0 6 lh5_1.length), (23, ii x23_1), (24, ii x24_1)], [(6, rc (encI .i64) lh5_1 0 3 1), (5, .cells [.int .u32 (andNotV .u32 xh3_0_1 (shV true .u32 1 (List.getD lh5_1 (Int.toNat x24_1) 0))), .int .u32 xh3_1_1] 0 63 0), (4, rc (encI .i64) lh4_1 0 3 1), (3, .cells [.int .u32 xh3_0_1, .int .u32 xh3_1_1] 0 63 0), (2, .cells ([ii xh2_0_1, ii xh2_1_1, ii xh2_2_1] ++ rowC (encI .u32) lh2_1) 0 72 0), (1, rc (encI .i64) a_Frozen z1 y1 1), (0, rc (encI .i64) a_Sick z0 y0 1)], 7)) := by
              refine XA.step E0_ok [7] (by kernel_rfl) rfl (by kernel_rfl) ⟨?_, trivial⟩
              · refine XR.runS E0_ok 1 1 [(4, pp 2 0), (5, pp 3 0), (7, s0 4 lh4_1.length), (9, ii (List.getD lh5_1 (Int.toNat x24_1) 0)), (10, pp 5 0), (22, s0 6 lh5_1.length), (23, ii x23_1), (24, ii x24_1), (35, .agg #[.int .u32 (andNotV .u32 xh3_0_1 (shV true .u32 1 (List.getD lh5_1 (Int.toNat x24_1) 0))), .int .u32 xh3_1_1])] rfl (by kernel_rfl) ?_
                refine XR.done (by kernel_rfl) ?_
                refine ⟨rfl, ?_⟩
                show XA _ _ _ _ _ _ _ _ _ _
                exact xa5
            have xa3 : XA E0 47 2 (opsOf (lft (rgt (lft (lft (rgt (rgt f16_L1))))))) 3 #[true, true, true, true, true, true, true, false, false, false] [(4, pp 2 0), (5, pp 3 0), (7, s0 4 lh4_1.length), (9, ii (List.getD lh5_1 (Int.toNat x24_1) 0)), (22, s0 5 lh5_1.length), (23, ii x23_1), (24, ii x24_1), (32, .int .u32 (andNotV .u32 xh3_0_1 (shV true .u32 1 (List.getD lh5_1 (Int.toNat x24_1) 0)))), (34, .int .u32 xh3_1_1)] [(5, rc (encI .i64) lh5_1 0 3 1), (4, rc (encI .i64) lh4_1 0 3 1), (3, .cells [.int .u32 xh3_0_1, .int .u32 xh3_1_1] 0 63 0), (2, .cells ([ii xh2_0_1, ii xh2_1_1, ii xh2_2_1] ++ rowC (encI .u32) lh2_1) 0 72 0), (1, rc (encI .i64) a_Frozen z1 y1 1), (0, rc (encI .i64) a_Sick z0 y0 1)] 6 (fun xe xσ xh xc => xe = .normal ∧ (xσ, xh, xc) = ([(4, pp 2 0), (5, pp 3 0), (7, s0 4 lh4_1.length), (9, ii (List.getD lh5_1 (Int.toNat x24_1) 0)), (10, pp 5 0), (22, s0 6 lh5_1.length), (23, ii x23_1), (24, ii x24_1)], [(6, rc (encI .i64) lh5_1 0 3 1), (5, .cells [.int .u32 (andNotV .u32 xh3_0_1 (shV true .u32 1 (List.getD lh5_1 (Int.toNat x24_1) 0))), .int .u32 xh3_1_1] 0 63 0), (4, rc (encI .i64) lh4_1 0 3 1), (3, .cells [.int .u32 xh3_0_1, .int .u32 xh3_1_1] 0 63 0), (2, .cells ([ii xh2_0_1, ii xh2_1_1, ii xh2_2_1] ++ rowC (encI .u32) lh2_1) 0 72 0), (1, rc (encI .i64) a_Frozen z1 y1 1), (0, rc (encI .i64) a_Sick z0 y0 1)], 7)) := by
              refine XA.step E0_ok [7, 8] (by kernel_rfl) rfl (by kernel_rfl) ⟨?_, ?_, trivial⟩
              · refine XR.runS E0_ok 1 1 [(4, pp 2 0), (5, pp 3 0), (7, s0 4 lh4_1.length), (9, ii (List.getD lh5_1 (Int.toNat x24_1) 0)), (22, s0 5 lh5_1.length), (23, ii x23_1), (24, ii x24_1), (35, .agg #[.int .u32 (andNotV .u32 xh3_0_1 (shV true .u32 1 (List.getD lh5_1 (Int.toNat x24_1) 0))), .int .u32 xh3_1_1])] rfl (by kernel_rfl) ?_
                refine XR.done (by kernel_rfl) ?_
                refine ⟨rfl, ?_⟩
                show XA _ _ _ _ _ _ _ _ _ _
                exact xa4
              · refine XR.runT E0_ok 1 1 [(4, pp 2 0), (5, pp 3 0), (7, s0 4 lh4_1.length), (9, ii (List.getD lh5_1 (Int.toNat x24_1) 0)), (10, pp 6 0), (22, s0 5 lh5_1.length), (23, ii x23_1), (24, ii x24_1), (32, .int .u32 (andNotV .u32 xh3_0_1 (shV true .u32 1 (List.getD lh5_1 (Int.toNat x24_1) 0)))), (34, .int .u32 xh3_1_1)] [(6, .cells [.int .u32 0, .int .u32 0] 0 63 0), (5, rc (encI .i64) lh5_1 0 3 1), (4, rc (encI .i64) lh4_1 0 3 1), (3, .cells [.int .u32 xh3_0_1, .int .u32 xh3_1_1] 0 63 0), (2, .cells ([ii xh2_0_1, ii xh2_1_1, ii xh2_2_1] ++ rowC (encI .u32) lh2_1) 0 72 0), (1, rc (encI .i64) a_Frozen z1 y1 1), (0, rc (encI .i64) a_Sick z0 y0 1)] 7 rfl (by kernel_rfl) ?_
                refine XR.done (by kernel_rfl) ?_
                refine ⟨rfl, ?_⟩
                show XA _ _ _ _ _ _ _ _ _ _
                refine XA.ren (σ' := [(4, pp 2 0), (5, pp 3 0), (7, s0 4 lh4_1.length), (9, ii (List.getD lh5_1 (Int.toNat x24_1) 0)), (10, pp 5 0), (22, s0 6 lh5_1.length), (23, ii x23_1), (24, ii x24_1), (32, .int .u32 (andNotV .u32 xh3_0_1 (shV true .u32 1 (List.getD lh5_1 (Int.toNat x24_1) 0)))), (34, .int .u32 xh3_1_1)]) (h' := [(6, rc (encI .i64) lh5_1 0 3 1), (5, .cells [.int .u32 0, .int .u32 0] 0 63 0), (4, rc (encI .i64) lh4_1 0 3 1), (3, .cells [.int .u32 xh3_0_1, .int .u32 xh3_1_1] 0 63 0), (2, .cells ([ii xh2_0_1, ii xh2_1_1, ii xh2_2_1] ++ rowC (encI .u32) lh2_1) 0 72 0), (1, rc (encI .i64) a_Frozen z1 y1 1), (0, rc (encI .i64) a_Sick z0 y0 1)]) (c' := 7) [0, 1, 2, 3, 4, 6, 5] (by decide) rfl ⟨by kernel_rfl, by kernel_rfl, by kernel_rfl, by kernel_rfl, by kernel_rfl, by kernel_rfl, by kernel_rfl, by kernel_rfl, by kernel_rfl, by kernel_rfl, trivial⟩ ⟨⟨_, _, rfl, rfl, .inl ⟨rfl, rowC_scal (encI_ok .i64) _⟩⟩, ⟨_, _, rfl, rfl, .inr ⟨_, _, _, _, rfl, rfl⟩⟩, ⟨_, _, rfl, rfl, .inl ⟨rfl, rowC_scal (encI_ok .i64) _⟩⟩, ⟨_, _, rfl, rfl, .inr ⟨_, _, _, _, rfl, rfl⟩⟩, ⟨_, _, rfl, rfl, .inl ⟨rfl, preC_scal rfl (rowC_scal (encI_ok .u32) _)⟩⟩, ⟨_, _, rfl, rfl, .inl ⟨rfl, rowC_scal (encI_ok .i64) _⟩⟩, ⟨_, _, rfl, rfl, .inl ⟨rfl, rowC_scal (encI_ok .i64) _⟩⟩, trivial⟩ rfl ?_
                exact xa7
            have xa8 : XA E0 47 2 (opsOf (lft (rgt (lft (lft (rgt (rgt f16_L1))))))) 3 #[true, true, true, true, true, true, false, false, true, false] [(4, pp 2 0), (5, pp 3 0), (7, s0 4 lh4_1.length), (9, ii (List.getD lh5_1 (Int.toNat x24_1) 0)), (10, pp 5 0), (22, s0 6 lh5_1.length), (23, ii x23_1), (24, ii x24_1), (32, .int .u32 (andNotV .u32 xh3_0_1 (shV true .u32 1 (List.getD lh5_1 (Int.toNat x24_1) 0)))), (33, pp 3 1)] [(6, rc (encI .i64) lh5_1 0 3 1), (5, .cells [.int .u32 0, .int .u32 0] 0 63 0), (4, rc (encI .i64) lh4_1 0 3 1), (3, .cells [.int .u32 xh3_0_1, .int .u32 xh3_1_1] 0 63 0), (2, .cells ([ii xh2_0_1, ii xh2_1_1, ii xh2_2_1] ++ rowC (encI .u32) lh2_1) 0 72 0), (1, rc (encI .i64) a_Frozen z1 y1 1), (0, rc (encI .i64) a_Sick z0 y0 1)] 7 (fun xe xσ xh xc => xe = .normal ∧ (xσ, xh, xc) = ([(4, pp 2 0), (5, pp 3 0), (7, s0 4 lh4_1.length), (9, ii (List.getD lh5_1 (Int.toNat x24_1) 0)), (10, pp 5 0), (22, s0 6 lh5_1.length), (23, ii x23_1), (24, ii x24_1)], [(6, rc (encI .i64) lh5_1 0 3 1), (5, .cells [.int .u32 (andNotV .u32 xh3_0_1 (shV true .u32 1 (List.getD lh5_1 (Int.toNat x24_1) 0))), .int .u32 xh3_1_1] 0 63 0), (4, rc (encI .i64) lh4_1 0 3 1), (3, .cells [.int .u32 xh3_0_1, .int .u32 xh3_1_1] 0 63 0), (2, .cells ([ii xh2_0_1, ii xh2_1_1, ii xh2_2_1] ++ rowC (encI .u32) lh2_1) 0 72 0), (1, rc (encI .i64) a_Frozen z1 y1 1), (0, rc (encI .i64) a_Sick z0 y0 1)], 7)) := by
              refine XA.step E0_ok [6] (by kernel_rfl) rfl (by kernel_rfl) ⟨?_, trivial⟩
              · refine XR.runS E0_ok 1 1 [(4, pp 2 0), (5, pp 3 0), (7, s0 4 lh4_1.length), (9, ii (List.getD lh5_1 (Int.toNat x24_1) 0)), (10, pp 5 0), (22, s0 6 lh5_1.length), (23, ii x23_1), (24, ii x24_1), (32, .int .u32 (andNotV .u32 xh3_0_1 (shV true .u32 1 (List.getD lh5_1 (Int.toNat x24_1) 0)))), (34, .int .u32 xh3_1_1)] rfl (by kernel_rfl) ?_
                refine XR.done (by kernel_rfl) ?_
                refine ⟨rfl, ?_⟩
                show XA _ _ _ _ _ _ _ _ _ _
                exact xa7
            have xa2 : XA E0 47 2 (opsOf (lft (rgt (lft (lft (rgt (rgt f16_L1))))))) 4 #[true, true, true, true, true, true, false, false, false, false] [(4, pp 2 0), (5, pp 3 0), (7, s0 4 lh4_1.length), (9, ii (List.getD lh5_1 (Int.toNat x24_1) 0)), (22, s0 5 lh5_1.length), (23, ii x23_1), (24, ii x24_1), (32, .int .u32 (andNotV .u32 xh3_0_1 (shV true .u32 1 (List.getD lh5_1 (Int.toNat x24_1) 0)))), (33, pp 3 1)] [(5, rc (encI .i64) lh5_1 0 3 1), (4, rc (encI .i64) lh4_1 0 3 1), (3, .cells [.int .u32 xh3_0_1, .int .u32 xh3_1_1] 0 63 0), (2, .cells ([ii xh2_0_1, ii xh2_1_1, ii xh2_2_1] ++ rowC (encI .u32) lh2_1) 0 72 0), (1, rc (encI .i64) a_Frozen z1 y1 1), (0, rc (encI .i64) a_Sick z0 y0 1)] 6 (fun xe xσ xh xc => xe = .normal ∧ (xσ, xh, xc) = ([(4, pp 2 0), (5, pp 3 0), (7, s0 4 lh4_1.length), (9, ii (List.getD lh5_1 (Int.toNat x24_1) 0)), (10, pp 5 0), (22, s0 6 lh5_1.length), (23, ii x23_1), (24, ii x24_1)], [(6, rc (encI .i64) lh5_1 0 3 1), (5, .cells [.int .u32 (andNotV .u32 xh3_0_1 (shV true .u32 1 (List.getD lh5_1 (Int.toNat x24_1) 0))), .int .u32 xh3_1_1] 0 63 0), (4, rc (encI .i64) lh4_1 0 3 1), (3, .cells [.int .u32 xh3_0_1, .int .u32 xh3_1_1] 0 63 0), (2, .cells ([ii xh2_0_1, ii xh2_1_1, ii xh2_2_1] ++ rowC (encI .u32) lh2_1) 0 72 0), (1, rc (encI .i64) a_Frozen z1 y1 1), (0, rc (encI .i64) a_Sick z0 y0 1)], 7)) := by
              refine XA.step E0_ok [6, 8] (by kernel_rfl) rfl (by kernel_rfl) ⟨?_, ?_, trivial⟩
              · refine XR.runS E0_ok 1 1 [(4, pp 2 0), (5, pp 3 0), (7, s0 4 lh4_1.length), (9, ii (List.getD lh5_1 (Int.toNat x24_1) 0)), (22, s0 5 lh5_1.length), (23, ii x23_1), (24, ii x24_1), (32, .int .u32 (andNotV .u32 xh3_0_1 (shV true .u32 1 (List.getD lh5_1 (Int.toNat x24_1) 0)))), (34, .int .u32 xh3_1_1)] rfl (by kernel_rfl) ?_
                refine XR.done (by kernel_rfl) ?_
                refine ⟨rfl, ?_⟩
                show XA _ _ _ _ _ _ _ _ _ _
                exact xa3
              · refine XR.runT E0_ok 1 1 [(4, pp 2 0), (5, pp 3 0), (7, s0 4 lh4_1.length), (9, ii (List.getD lh5_1 (Int.toNat x24_1) 0)), (10, pp 6 0), (22, s0 5 lh5_1.length), (23, ii x23_1), (24, ii x24_1), (32, .int .u32 (andNotV .u32 xh3_0_1 (shV true .u32 1 (List.getD lh5_1 (Int.toNat x24_1) 0)))), (33, pp 3 1)] [(6, .cells [.int .u32 0, .int .u32 0] 0 63 0), (5, rc (encI .i64) lh5_1 0 3 1), (4, rc (encI .i64) lh4_1 0 3 1), (3, .cells [.int .u32 xh3_0_1, .int .u32 xh3_1_1] 0 63 0), (2, .cells ([ii xh2_0_1, ii xh2_1_1, ii xh2_2_1] ++ rowC (encI .u32) lh2_1) 0 72 0), (1, rc (encI .i64) a_Frozen z1 y1 1), (0, rc (encI .i64) a_Sick z0 y0 1)] 7 rfl (by kernel_rfl) ?_
                refine XR.done (by kernel_rfl) ?_
                refine ⟨rfl, ?_⟩
                show XA _ _ _ _ _ _ _ _ _ _
                refine XA.ren (σ' := [(4, pp 2 0), (5, pp 3 0), (7, s0 4 lh4_1.length), (9, ii (List.getD lh5_1 (Int.toNat x24_1) 0)), (10, pp 5 0), (22, s0 6 lh5_1.length), (23, ii x23_1), (24, ii x24_1), (32, .int .u32 (andNotV .u32 xh3_0_1 (shV true .u32 1 (List.getD lh5_1 (Int.toNat x24_1) 0)))), (33, pp 3 1)]) (h' := [(6, rc (encI .i64) lh5_1 0 3 1), (5, .cells [.int .u32 0, .int .u32 0] 0 63 0), (4, rc (encI .i64) lh4_1 0 3 1), (3, .cells [.int .u32 xh3_0_1, .int .u32 xh3_1_1] 0 63 0), (2, .cells ([ii xh2_0_1, ii xh2_1_1, ii xh2_2_1] ++ rowC (encI .u32) lh2_1) 0 72 0), (1, rc (encI .i64) a_Frozen z1 y1 1), (0, rc (encI .i64) a_Sick z0 y0 1)]) (c' := 7) [0, 1, 2, 3, 4, 6, 5] (by decide) rfl ⟨by kernel_rfl, by kernel_rfl, by kernel_rfl, by kernel_rfl, by kernel_rfl, by kernel_rfl, by kernel_rfl, by kernel_rfl, by kernel_rfl, by kernel_rfl, trivial⟩ ⟨⟨_, _, rfl, rfl, .inl ⟨rfl, rowC_scal (encI_ok .i64) _⟩⟩, ⟨_, _, rfl, rfl, .inr ⟨_, _, _, _, rfl, rfl⟩⟩, ⟨_, _, rfl, rfl, .inl ⟨rfl, rowC_scal (encI_ok .i64) _⟩⟩, ⟨_, _, rfl, rfl, .inr ⟨_, _, _, _, rfl, rfl⟩⟩, ⟨_, _, rfl, rfl, .inl ⟨rfl, preC_scal rfl (rowC_scal (encI_ok .u32) _)⟩⟩, ⟨_, _, rfl, rfl, .inl ⟨rfl, rowC_scal (encI_ok .i64) _⟩⟩, ⟨_, _, rfl, rfl, .inl ⟨rfl, rowC_scal (encI_ok .i64) _⟩⟩, trivial⟩ rfl ?_
                exact xa8
            have xa10 : XA E0 47 2 (opsOf (lft (rgt (lft (lft (rgt (rgt f16_L1))))))) 3 #[true, true, true, true, false, true, true, false, true, false] [(4, pp 2 0), (5, pp 3 0), (7, s0 4 lh4_1.length), (9, ii (List.getD lh5_1 (Int.toNat x24_1) 0)), (10, pp 5 0), (22, s0 6 lh5_1.length), (23, ii x23_1), (24, ii x24_1), (29, .int .u32 xh3_0_1), (31, .int .u32 (shV true .u32 1 (List.getD lh5_1 (Int.toNat x24_1) 0))), (34, .int .u32 xh3_1_1)] [(6, rc (encI .i64) lh5_1 0 3 1), (5, .cells [.int .u32 0, .int .u32 0] 0 63 0), (4, rc (encI .i64) lh4_1 0 3 1), (3, .cells [.int .u32 xh3_0_1, .int .u32 xh3_1_1] 0 63 0), (2, .cells ([ii xh2_0_1, ii xh2_1_1, ii xh2_2_1] ++ rowC (encI .u32) lh2_1) 0 72 0), (1, rc (encI .i64) a_Frozen z1 y1 1), (0, rc (encI .i64) a_Sick z0 y0 1)] 7 (fun xe xσ xh xc => xe = .normal ∧ (xσ, xh, xc) = ([(4, pp 2 0), (5, pp 3 0), (7, s0 4 lh4_1.length), (9, ii (List.getD lh5_1 (Int.toNat x24_1) 0)), (10, pp 5 0), (22, s0 6 lh5_1.length), (23, ii x23_1), (24, ii x24_1)], [(6, rc (encI .i64) lh5_1 0 3 1), (5, .cells [.int .u32 (andNotV .u32 xh3_0_1 (shV true .u32 1 (List.getD lh5_1 (Int.toNat x24_1) 0))), .int .u32 xh3_1_1] 0 63 0), (4, rc (encI .i64) lh4_1 0 3 1), (3, .cells [.int .u32 xh3_0_1, .int .u32 xh3_1_1] 0 63 0), (2, .cells ([ii xh2_0_1, ii xh2_1_1, ii xh2_2_1] ++ rowC (encI .u32) lh2_1) 0 72 0), (1, rc (encI .i64) a_Frozen z1 y1 1), (0, rc (encI .i64) a_Sick z0 y0 1)], 7)) := by
              refine XA.step E0_ok [4] (by kernel_rfl) rfl (by kernel_rfl) ⟨?_, trivial⟩
              · refine XR.runS E0_ok 1 1 [(4, pp 2 0), (5, pp 3 0), (7, s0 4 lh4_1.length), (9, ii (List.getD lh5_1 (Int.toNat x24_1) 0)), (10, pp 5 0), (22, s0 6 lh5_1.length), (23, ii x23_1), (24, ii x24_1), (32, .int .u32 (andNotV .u32 xh3_0_1 (shV true .u32 1 (List.getD lh5_1 (Int.toNat x24_1) 0)))), (34, .int .u32 xh3_1_1)] rfl (by kernel_rfl) ?_
                refine XR.done (by kernel_rfl) ?_
                refine ⟨rfl, ?_⟩
                show XA _ _ _ _ _ _ _ _ _ _
                exact xa7
            have xa9 : XA E0 47 2 (opsOf (lft (rgt (lft (lft (rgt (rgt f16_L1))))))) 4 #[true, true, true, true, false, true, true, false, false, false] [(4, pp 2 0), (5, pp 3 0), (7, s0 4 lh4_1.length), (9, ii (List.getD lh5_1 (Int.toNat x24_1) 0)), (22, s0 5 lh5_1.length), (23, ii x23_1), (24, ii x24_1), (29, .int .u32 xh3_0_1), (31, .int .u32 (shV true .u32 1 (List.getD lh5_1 (Int.toNat x24_1) 0))), (34, .int .u32 xh3_1_1)] [(5, rc (encI .i64) lh5_1 0 3 1), (4, rc (encI .i64) lh4_1 0 3 1), (3, .cells [.int .u32 xh3_0_1, .int .u32 xh3_1_1] 0 63 0), (2, .cells ([ii xh2_0_1, ii xh2_1_1, ii xh2_2_1] ++ rowC (encI .u32) lh2_1) 0 72 0), (1, rc (encI .i64) a_Frozen z1 y1 1), (0, rc (encI .i64) a_Sick z0 y0 1)] 6 (fun xe xσ xh xc => xe = .normal ∧ (xσ, xh, xc) = ([(4, pp 2 0), (5, pp 3 0), (7, s0 4 lh4_1.length), (9, ii (List.getD lh5_1 (Int.toNat x24_1) 0)), (10, pp 5 0), (22, s0 6 lh5_1.length), (23, ii x23_1), (24, ii x24_1)], [(6, rc (encI .i64) lh5_1 0 3 1), (5, .cells [.int .u32 (andNotV .u32 xh3_0_1 (shV true .u32 1 (List.getD lh5_1 (Int.toNat x24_1) 0))), .int .u32 xh3_1_1] 0 63 0), (4, rc (encI .i64) lh4_1 0 3 1), (3, .cells [.int .u32 xh3_0_1, .int .u32 xh3_1_1] 0 63 0), (2, .cells ([ii xh2_0_1, ii xh2_1_1, ii xh2_2_1] ++ rowC (encI .u32) lh2_1) 0 72 0), (1, rc (encI .i64) a_Frozen z1 y1 1), (0, rc (encI .i64) a_Sick z0 y0 1)], 7)) := by
              refine XA.step E0_ok [4, 8] (by kernel_rfl) rfl (by kernel_rfl) ⟨?_, ?_, trivial⟩
              · refine XR.runS E0_ok 1 1 [(4, pp 2 0), (5, pp 3 0), (7, s0 4 lh4_1.length), (9, ii (List.getD lh5_1 (Int.toNat x24_1) 0)), (22, s0 5 lh5_1.length), (23, ii x23_1), (24, ii x24_1), (32, .int .u32 (andNotV .u32 xh3_0_1 (shV true .u32 1 (List.getD lh5_1 (Int.toNat x24_1) 0)))), (34, .int .u32 xh3_1_1)] rfl (by kernel_rfl) ?_
                refine XR.done (by kernel_rfl) ?_
                refine ⟨rfl, ?_⟩
                show XA _ _ _ _ _ _ _ _ _ _
                exact xa3
              · refine XR.runT E0_ok 1 1 [(4, pp 2 0), (5, pp 3 0), (7, s0 4 lh4_1.length), (9, ii (List.getD lh5_1 (Int.toNat x24_1) 0)), (10, pp 6 0), (22, s0 5 lh5_1.length), (23, ii x23_1), (24, ii x24_1), (29, .int .u32 xh3_0_1), (31, .int .u32 (shV true .u32 1 (List.getD lh5_1 (Int.toNat x24_1) 0))), (34, .int .u32 xh3_1_1)] [(6, .cells [.int .u32 0, .int .u32 0] 0 63 0), (5, rc (encI .i64) lh5_1 0 3 1), (4, rc (encI .i64) lh4_1 0 3 1), (3, .cells [.int .u32 xh3_0_1, .int .u32 xh3_1_1] 0 63 0), (2, .cells ([ii xh2_0_1, ii xh2_1_1, ii xh2_2_1] ++ rowC (encI .u32) lh2_1) 0 72 0), (1, rc (encI .i64) a_Frozen z1 y1 1), (0, rc (encI .i64) a_Sick z0 y0 1)] 7 rfl (by kernel_rfl) ?_
                refine XR.done (by kernel_rfl) ?_
                refine ⟨rfl, ?_⟩
                show XA _ _ _ _ _ _ _ _ _ _
                refine XA.ren (σ' := [(4, pp 2 0), (5, pp 3 0), (7, s0 4 lh4_1.length), (9, ii (List.getD lh5_1 (Int.toNat x24_1) 0)), (10, pp 5 0), (22, s0 6 lh5_1.length), (23, ii x23_1), (24, ii x24_1), (29, .int .u32 xh3_0_1), (31, .int .u32 (shV true .u32 1 (List.getD lh5_1 (Int.toNat x24_1) 0))), (34, .int .u32 xh3_1_1)]) (h' := [(6, rc (encI .i64) lh5_1 0 3 1), (5, .cells [.int .u32 0, .int .u32 0] 0 63 0), (4, rc (encI .i64) lh4_1 0 3 1), (3, .cells [.int .u32 xh3_0_1, .int .u32 xh3_1_1] 0 63 0), (2, .cells ([ii xh2_0_1, ii xh2_1_1, ii xh2_2_1] ++ rowC (encI .u32) lh2_1) 0 72 0), (1, rc (encI .i64) a_Frozen z1 y1 1), (0, rc (encI .i64) a_Sick z0 y0 1)]) (c' := 7) [0, 1, 2, 3, 4, 6, 5] (by decide) rfl ⟨by kernel_rfl, by kernel_rfl, by kernel_rfl, by kernel_rfl, by kernel_rfl, by kernel_rfl, by kernel_rfl, by kernel_rfl, by kernel_rfl, by kernel_rfl, by kernel_rfl, trivial⟩ ⟨⟨_, _, rfl, rfl, .inl ⟨rfl, rowC_scal (encI_ok .i64) _⟩⟩, ⟨_, _, rfl, rfl, .inr ⟨_, _, _, _, rfl, rfl⟩⟩, ⟨_, _, rfl, rfl, .inl ⟨rfl, rowC_scal (encI_ok .i64) _⟩⟩, ⟨_, _, rfl, rfl, .inr ⟨_, _, _, _, rfl, rfl⟩⟩, ⟨_, _, rfl, rfl, .inl ⟨rfl, preC_scal rfl (rowC_scal (encI_ok .u32) _)⟩⟩, ⟨_, _, rfl, rfl, .inl ⟨rfl, rowC_scal (encI_ok .i64) _⟩⟩, ⟨_, _, rfl, rfl, .inl ⟨rfl, rowC_scal (encI_ok .i64) _⟩⟩, trivial⟩ rfl ?_
                exact xa10
            have xa11 : XA E0 47 2 (opsOf (lft (rgt (lft (lft (rgt (rgt f16_L1))))))) 4 #[true, true, true, true, false, true, false, false, true, false] [(4, pp 2 0), (5, pp 3 0), (7, s0 4 lh4_1.length), (9, ii (List.getD lh5_1 (Int.toNat x24_1) 0)), (10, pp 5 0), (22, s0 6 lh5_1.length), (23, ii x23_1), (24, ii x24_1), (29, .int .u32 xh3_0_1), (31, .int .u32 (shV true .u32 1 (List.getD lh5_1 (Int.toNat x24_1) 0))), (33, pp 3 1)] [(6, rc (encI .i64) lh5_1 0 3 1), (5, .cells [.int .u32 0, .int .u32 0] 0 63 0), (4, rc (encI .i64) lh4_1 0 3 1), (3, .cells [.int .u32 xh3_0_1, .int .u32 xh3_1_1] 0 63 0), (2, .cells ([ii xh2_0_1, ii xh2_1_1, ii xh2_2_1] ++ rowC (encI .u32) lh2_1) 0 72 0), (1, rc (encI .i64) a_Frozen z1 y1 1), (0, rc (encI .i64) a_Sick z0 y0 1)] 7 (fun xe xσ xh xc => xe = .normal ∧ (xσ, xh, xc) = ([(4, pp 2 0), (5, pp 3 0), (7, s0 4 lh4_1.length), (9, ii (List.getD lh5_1 (Int.toNat x24_1) 0)), (10, pp 5 0), (22, s0 6 lh5_1.length), (23, ii x23_1), (24, ii x24_1)], [(6, rc (encI .i64) lh5_1 0 3 1), (5, .cells [.int .u32 (andNotV .u32 xh3_0_1 (shV true .u32 1 (List.getD lh5_1 (Int.toNat x24_1) 0))), .int .u32 xh3_1_1] 0 63 0), (4, rc (encI .i64) lh4_1 0 3 1), (3, .cells [.int .u32 xh3_0_1, .int .u32 xh3_1_1] 0 63 0), (2, .cells ([ii xh2_0_1, ii xh2_1_1, ii xh2_2_1] ++ rowC (encI .u32) lh2_1) 0 72 0), (1, rc (encI .i64) a_Frozen z1 y1 1), (0, rc (encI .i64) a_Sick z0 y0 1)], 7)) := by
              refine XA.step E0_ok [4, 6] (by kernel_rfl) rfl (by kernel_rfl) ⟨?_, ?_, trivial⟩
              · refine XR.runS E0_ok 1 1 [(4, pp 2 0), (5, pp 3 0), (7, s0 4 lh4_1.length), (9, ii (List.getD lh5_1 (Int.toNat x24_1) 0)), (10, pp 5 0), (22, s0 6 lh5_1.length), (23, ii x23_1), (24, ii x24_1), (32, .int .u32 (andNotV .u32 xh3_0_1 (shV true .u32 1 (List.getD lh5_1 (Int.toNat x24_1) 0)))), (33, pp 3 1)] rfl (by kernel_rfl) ?_
                refine XR.done (by kernel_rfl) ?_
                refine ⟨rfl, ?_⟩
                show XA _ _ _ _ _ _ _ _ _ _
                exact xa8
              · refine XR.runS E0_ok 1 1 [(4, pp 2 0), (5, pp 3 0), (7, s0 4 lh4_1.length), (9, ii (List.getD lh5_1 (Int.toNat x24_1) 0)), (10, pp 5 0), (22, s0 6 lh5_1.length), (23, ii x23_1), (24, ii x24_1), (29, .int .u32 xh3_0_1), (31, .int .u32 (shV true .u32 1 (List.getD lh5_1 (Int.toNat x24_1) 0))), (34, .int .u32 xh3_1_1)] rfl (by kernel_rfl) ?_
                refine XR.done (by kernel_rfl) ?_
                refine ⟨rfl, ?_⟩
                show XA _ _ _ _ _ _ _ _ _ _
                exact xa10
            have xa1 : XA E0 47 2 (opsOf (lft (rgt (lft (lft (rgt (rgt f16_L1))))))) 5 #[true, true, true, true, false, true, false, false, false, false] [(4, pp 2 0), (5, pp 3 0), (7, s0 4 lh4_1.length), (9, ii (List.getD lh5_1 (Int.toNat x24_1) 0)), (22, s0 5 lh5_1.length), (23, ii x23_1), (24, ii x24_1), (29, .int .u32 xh3_0_1), (31, .int .u32 (shV true .u32 1 (List.getD lh5_1 (Int.toNat x24_1) 0))), (33, pp 3 1)] [(5, rc (encI .i64) lh5_1 0 3 1), (4, rc (encI .i64) lh4_1 0 3 1), (3, .cells [.int .u32 xh3_0_1, .int .u32 xh3_1_1] 0 63 0), (2, .cells ([ii xh2_0_1, ii xh2_1_1, ii xh2_2_1] ++ rowC (encI .u32) lh2_1) 0 72 0), (1, rc (encI .i64) a_Frozen z1 y1 1), (0, rc (encI .i64) a_Sick z0 y0 1)] 6 (fun xe xσ xh xc => xe = .normal ∧ (xσ, xh, xc) = ([(4, pp 2 0), (5, pp 3 0), (7, s0 4 lh4_1.length), (9, ii (List.getD lh5_1 (Int.toNat x24_1) 0)), (10, pp 5 0), (22, s0 6 lh5_1.length), (23, ii x23_1), (24, ii x24_1)], [(6, rc (encI .i64) lh5_1 0 3 1), (5, .cells [.int .u32 (andNotV .u32 xh3_0_1 (shV true .u32 1 (List.getD lh5_1 (Int.toNat x24_1) 0))), .int .u32 xh3_1_1] 0 63 0), (4, rc (encI .i64) lh4_1 0 3 1), (3, .cells [.int .u32 xh3_0_1, .int .u32 xh3_1_1] 0 63 0), (2, .cells ([ii xh2_0_1, ii xh2_1_1, ii xh2_2_1] ++ rowC (encI .u32) lh2_1) 0 72 0), (1, rc (encI .i64) a_Frozen z1 y1 1), (0, rc (encI .i64) a_Sick z0 y0 1)], 7)) := by
              refine XA.step E0_ok [4, 6, 8] (by kernel_rfl) rfl (by kernel_rfl) ⟨?_, ?_, ?_, trivial⟩
              · refine XR.runS E0_ok 1 1 [(4, pp 2 0), (5, pp 3 0), (7, s0 4 lh4_1.length), (9, ii (List.getD lh5_1 (Int.toNat x24_1) 0)), (22, s0 5 lh5_1.length), (23, ii x23_1), (24, ii x24_1), (32, .int .u32 (andNotV .u32 xh3_0_1 (shV true .u32 1 (List.getD lh5_1 (Int.toNat x24_1) 0)))), (33, pp 3 1)] rfl (by kernel_rfl) ?_
                refine XR.done (by kernel_rfl) ?_
                refine ⟨rfl, ?_⟩
                show XA _ _ _ _ _ _ _ _ _ _
                exact xa2
              · refine XR.runS E0_ok 1 1 [(4, pp 2 0), (5, pp 3 0), (7, s0 4 lh4_1.length), (9, ii (List.getD lh5_1 (Int.toNat x24_1) 0)), (22, s0 5 lh5_1.length), (23, ii x23_1), (24, ii x24_1), (29, .int .u32 xh3_0_1), (31, .int .u32 (shV true .u32 1 (List.getD lh5_1 (Int.toNat x24_1) 0))), (34, .int .u32 xh3_1_1)] rfl (by kernel_rfl) ?_
                refine XR.done (by kernel_rfl) ?_
                refine ⟨rfl, ?_⟩
                show XA _ _ _ _ _ _ _ _ _ _
                exact xa9
              · refine XR.runT E0_ok 1 1 [(4, pp 2 0), (5, pp 3 0), (7, s0 4 lh4_1.length), (9, ii (List.getD lh5_1 (Int.toNat x24_1) 0)), (10, pp 6 0), (22, s0 5 lh5_1.length), (23, ii x23_1), (24, ii x24_1), (29, .int .u32 xh3_0_1), (31, .int .u32 (shV true .u32 1 (List.getD lh5_1 (Int.toNat x24_1) 0))), (33, pp 3 1)] [(6, .cells [.int .u32 0, .int .u32 0] 0 63 0), (5, rc (encI .i64) lh5_1 0 3 1), (4, rc (encI .i64) lh4_1 0 3 1), (3, .cells [.int .u32 xh3_0_1, .int .u32 xh3_1_1] 0 63 0), (2, .cells ([ii xh2_0_1, ii xh2_1_1, ii xh2_2_1] ++ rowC (encI .u32) lh2_1) 0 72 0), (1, rc (encI .i64) a_Frozen z1 y1 1), (0, rc (encI .i64) a_Sick z0 y0 1)] 7 rfl (by kernel_rfl) ?_
                refine XR.done (by kernel_rfl) ?_
                refine ⟨rfl, ?_⟩
                show XA _ _ _ _ _ _ _ _ _ _
                refine XA.ren (σ' := [(4, pp 2 0), (5, pp 3 0), (7, s0 4 lh4_1.length), (9, ii (List.getD lh5_1 (Int.toNat x24_1) 0)), (10, pp 5 0), (22, s0 6 lh5_1.length), (23, ii x23_1), (24, ii x24_1), (29, .int .u32 xh3_0_1), (31, .int .u32 (shV true .u32 1 (List.getD lh5_1 (Int.toNat x24_1) 0))), (33, pp 3 1)]) (h' := [(6, rc (encI .i64) lh5_1 0 3 1), (5, .cells [.int .u32 0, .int .u32 0] 0 63 0), (4, rc (encI .i64) lh4_1 0 3 1), (3, .cells [.int .u32 xh3_0_1, .int .u32 xh3_1_1] 0 63 0), (2, .cells ([ii xh2_0_1, ii xh2_1_1, ii xh2_2_1] ++ rowC (encI .u32) lh2_1) 0 72 0), (1, rc (encI .i64) a_Frozen z1 y1 1), (0, rc (encI .i64) a_Sick z0 y0 1)]) (c' := 7) [0, 1, 2, 3, 4, 6, 5] (by decide) rfl ⟨by kernel_rfl, by kernel_rfl, by kernel_rfl, by kernel_rfl, by kernel_rfl, by kernel_rfl, by kernel_rfl, by kernel_rfl, by kernel_rfl, by kernel_rfl, by kernel_rfl, trivial⟩ ⟨⟨_, _, rfl, rfl, .inl ⟨rfl, rowC_scal (encI_ok .i64) _⟩⟩, ⟨_, _, rfl, rfl, .inr ⟨_, _, _, _, rfl, rfl⟩⟩, ⟨_, _, rfl, rfl, .inl ⟨rfl, rowC_scal (encI_ok .i64) _⟩⟩, ⟨_, _, rfl, rfl, .inr ⟨_, _, _, _, rfl, rfl⟩⟩, ⟨_, _, rfl, rfl, .inl ⟨rfl, preC_scal rfl (rowC_scal (encI_ok .u32) _)⟩⟩, ⟨_, _, rfl, rfl, .inl ⟨rfl, rowC_scal (encI_ok .i64) _⟩⟩, ⟨_, _, rfl, rfl, .inl ⟨rfl, rowC_scal (encI_ok .i64) _⟩⟩, trivial⟩ rfl ?_
                exact xa11
            have xa13 : XA E0 47 2 (opsOf (lft (rgt (lft (lft (rgt (rgt f16_L1))))))) 4 #[true, false, true, true, false, true, true, false, true, false] [(4, pp 2 0), (5, pp 3 0), (7, s0 4 lh4_1.length), (9, ii (List.getD lh5_1 (Int.toNat x24_1) 0)), (10, pp 5 0), (22, s0 6 lh5_1.length), (23, ii x23_1), (24, ii x24_1), (28, pp 3 0), (31, .int .u32 (shV true .u32 1 (List.getD lh5_1 (Int.toNat x24_1) 0))), (34, .int .u32 xh3_1_1)] [(6, rc (encI .i64) lh5_1 0 3 1), (5, .cells [.int .u32 0, .int .u32 0] 0 63 0), (4, rc (encI .i64) lh4_1 0 3 1), (3, .cells [.int .u32 xh3_0_1, .int .u32 xh3_1_1] 0 63 0), (2, .cells ([ii xh2_0_1, ii xh2_1_1, ii xh2_2_1] ++ rowC (encI .u32) lh2_1) 0 72 0), (1, rc (encI .i64) a_Frozen z1 y1 1), (0, rc (encI .i64) a_Sick z0 y0 1)] 7 (fun xe xσ xh xc => xe = .normal ∧ (xσ, xh, xc) = ([(4, pp 2 0), (5, pp 3 0), (7, s0 4 lh4_1.length), (9, ii (List.getD lh5_1 (Int.toNat x24_1) 0)), (10, pp 5 0), (22, s0 6 lh5_1.length), (23, ii x23_1), (24, ii x24_1)], [(6, rc (encI .i64) lh5_1 0 3 1), (5, .cells [.int .u32 (andNotV .u32 xh3_0_1 (shV true .u32 1 (List.getD lh5_1 (Int.toNat x24_1) 0))), .int .u32 xh3_1_1] 0 63 0), (4, rc (encI .i64) lh4_1 0 3 1), (3, .cells [.int .u32 xh3_0_1, .int .u32 xh3_1_1] 0 63 0), (2, .cells ([ii xh2_0_1, ii xh2_1_1, ii xh2_2_1] ++ rowC (encI .u32) lh2_1) 0 72 0), (1, rc (encI .i64) a_Frozen z1 y1 1), (0, rc (encI .i64) a_Sick z0 y0 1)], 7)) := by
              refine XA.step E0_ok [1] (by kernel_rfl) rfl (by kernel_rfl) ⟨?_, trivial⟩
              · refine XR.runS E0_ok 1 1 [(4, pp 2 0), (5, pp 3 0), (7, s0 4 lh4_1.length), (9, ii (List.getD lh5_1 (Int.toNat x24_1) 0)), (10, pp 5 0), (22, s0 6 lh5_1.length), (23, ii x23_1), (24, ii x24_1), (29, .int .u32 xh3_0_1), (31, .int .u32 (shV true .u32 1 (List.getD lh5_1 (Int.toNat x24_1) 0))), (34, .int .u32 xh3_1_1)] rfl (by kernel_rfl) ?_
                refine XR.done (by kernel_rfl) ?_
                refine ⟨rfl, ?_⟩
                show XA _ _ _ _ _ _ _ _ _ _
                exact xa10
            have xa12 : XA E0 47 2 (opsOf (lft (rgt (lft (lft (rgt (rgt f16_L1))))))) 5 #[true, false, true, true, false, true, true, false, false, false] [(4, pp 2 0), (5, pp 3 0), (7, s0 4 lh4_1.length), (9, ii (List.getD lh5_1 (Int.toNat x24_1) 0)), (22, s0 5 lh5_1.length), (23, ii x23_1), (24, ii x24_1), (28, pp 3 0), (31, .int .u32 (shV true .u32 1 (List.getD lh5_1 (Int.toNat x24_1) 0))), (34, .int .u32 xh3_1_1)] [(5, rc (encI .i64) lh5_1 0 3 1), (4, rc (encI .i64) lh4_1 0 3 1), (3, .cells [.int .u32 xh3_0_1, .int .u32 xh3_1_1] 0 63 0), (2, .cells ([ii xh2_0_1, ii xh2_1_1, ii xh2_2_1] ++ rowC (encI .u32) lh2_1) 0 72 0), (1, rc (encI .i64) a_Frozen z1 y1 1), (0, rc (encI .i64) a_Sick z0 y0 1)] 6 (fun xe xσ xh xc => xe = .normal ∧ (xσ, xh, xc) = ([(4, pp 2 0), (5, pp 3 0), (7, s0 4 lh4_1.length), (9, ii (List.getD lh5_1 (Int.toNat x24_1) 0)), (10, pp 5 0), (22, s0 6 lh5_1.length), (23, ii x23_1), (24, ii x24_1)], [(6, rc (encI .i64) lh5_1 0 3 1), (5, .cells [.int .u32 (andNotV .u32 xh3_0_1 (shV true .u32 1 (List.getD lh5_1 (Int.toNat x24_1) 0))), .int .u32 xh3_1_1] 0 63 0), (4, rc (encI .i64) lh4_1 0 3 1), (3, .cells [.int .u32 xh3_0_1, .int .u32 xh3_1_1] 0 63 0), (2, .cells ([ii xh2_0_1, ii xh2_1_1, ii xh2_2_1] ++ rowC (encI .u32) lh2_1) 0 72 0), (1, rc (encI .i64) a_Frozen z1 y1 1), (0, rc (encI .i64) a_Sick z0 y0 1)], 7)) := by
              refine XA.step E0_ok [1, 8] (by kernel_rfl) rfl (by kernel_rfl) ⟨?_, ?_, trivial⟩
              · refine XR.runS E0_ok 1 1 [(4, pp 2 0), (5, pp 3 0), (7, s0 4 lh4_1.length), (9, ii (List.getD lh5_1 (Int.toNat x24_1) 0)), (22, s0 5 lh5_1.length), (23, ii x23_1), (24, ii x24_1), (29, .int .u32 xh3_0_1), (31, .int .u32 (shV true .u32 1 (List.getD lh5_1 (Int.toNat x24_1) 0))), (34, .int .u32 xh3_1_1)] rfl (by kernel_rfl) ?_
                refine XR.done (by kernel_rfl) ?_
                refine ⟨rfl, ?_⟩
                show XA _ _ _ _ _ _ _ _ _ _
                exact xa9
              · refine XR.runT E0_ok 1 1 [(4, pp 2 0), (5, pp 3 0), (7, s0 4 lh4_1.length), (9, ii (List.getD lh5_1 (Int.toNat x24_1) 0)), (10, pp 6 0), (22, s0 5 lh5_1.length), (23, ii x23_1), (24, ii x24_1), (28, pp 3 0), (31, .int .u32 (shV true .u32 1 (List.getD lh5_1 (Int.toNat x24_1) 0))), (34, .int .u32 xh3_1_1)] [(6, .cells [.int .u32 0, .int .u32 0] 0 63 0), (5, rc (encI .i64) lh5_1 0 3 1), (4, rc (encI .i64) lh4_1 0 3 1), (3, .cells [.int .u32 xh3_0_1, .int .u32 xh3_1_1] 0 63 0), (2, .cells ([ii xh2_0_1, ii xh2_1_1, ii xh2_2_1] ++ rowC (encI .u32) lh2_1) 0 72 0), (1, rc (encI .i64) a_Frozen z1 y1 1), (0, rc (encI .i64) a_Sick z0 y0 1)] 7 rfl (by kernel_rfl) ?_
                refine XR.done (by kernel_rfl) ?_
                refine ⟨rfl, ?_⟩
                show XA _ _ _ _ _ _ _ _ _ _
                refine XA.ren (σ' := [(4, pp 2 0), (5, pp 3 0), (7, s0 4 lh4_1.length), (9, ii (List.getD lh5_1 (Int.toNat x24_1) 0)), (10, pp 5 0), (22, s0 6 lh5_1.length), (23, ii x23_1), (24, ii x24_1), (28, pp 3 0), (31, .int .u32 (shV true .u32 1 (List.getD lh5_1 (Int.toNat x24_1) 0))), (34, .int .u32 xh3_1_1)]) (h' := [(6, rc (encI .i64) lh5_1 0 3 1), (5, .cells [.int .u32 0, .int .u32 0] 0 63 0), (4, rc (encI .i64) lh4_1 0 3 1), (3, .cells [.int .u32 xh3_0_1, .int .u32 xh3_1_1] 0 63 0), (2, .cells ([ii xh2_0_1, ii xh2_1_1, ii xh2_2_1] ++ rowC (encI .u32) lh2_1) 0 72 0), (1, rc (encI .i64) a_Frozen z1 y1 1), (0, rc (encI .i64) a_Sick z0 y0 1)]) (c' := 7) [0, 1, 2, 3, 4, 6, 5] (by decide) rfl ⟨by kernel_rfl, by kernel_rfl, by kernel_rfl, by kernel_rfl, by kernel_rfl, by kernel_rfl, by kernel_rfl, by kernel_rfl, by kernel_rfl, by kernel_rfl, by kernel_rfl, trivial⟩ ⟨⟨_, _, rfl, rfl, .inl ⟨rfl, rowC_scal (encI_ok .i64) _⟩⟩, ⟨_, _, rfl, rfl, .inr ⟨_, _, _, _, rfl, rfl⟩⟩, ⟨_, _, rfl, rfl, .inl ⟨rfl, rowC_scal (encI_ok .i64) _⟩⟩, ⟨_, _, rfl, rfl, .inr ⟨_, _, _, _, rfl, rfl⟩⟩, ⟨_, _, rfl, rfl, .inl ⟨rfl, preC_scal rfl (rowC_scal (encI_ok .u32) _)⟩⟩, ⟨_, _, rfl, rfl, .inl ⟨rfl, rowC_scal (encI_ok .i64) _⟩⟩, ⟨_, _, rfl, rfl, .inl ⟨rfl, rowC_scal (encI_ok .i64) _⟩⟩, trivial⟩ rfl ?_
                exact xa13
            have xa14 : XA E0 47 2 (opsOf (lft (rgt (lft (lft (rgt (rgt f16_L1))))))) 5 #[true, false, true, true, false, true, false, false, true, false] [(4, pp 2 0), (5, pp 3 0), (7, s0 4 lh4_1.length), (9, ii (List.getD lh5_1 (Int.toNat x24_1) 0)), (10, pp 5 0), (22, s0 6 lh5_1.length), (23, ii x23_1), (24, ii x24_1), (28, pp 3 0), (31, .int .u32 (shV true .u32 1 (List.getD lh5_1 (Int.toNat x24_1) 0))), (33, pp 3 1)] [(6, rc (encI .i64) lh5_1 0 3 1), (5, .cells [.int .u32 0, .int .u32 0] 0 63 0), (4, rc (encI .i64) lh4_1 0 3 1), (3, .cells [.int .u32 xh3_0_1, .int .u32 xh3_1_1] 0 63 0), (2, .cells ([ii xh2_0_1, ii xh2_1_1, ii xh2_2_1] ++ rowC (encI .u32) lh2_1) 0 72 0), (1, rc (encI .i64) a_Frozen z1 y1 1), (0, rc (encI .i64) a_Sick z0 y0 1)] 7 (fun xe xσ xh xc => xe = .normal ∧ (xσ, xh, xc) = ([(4, pp 2 0), (5, pp 3 0), (7, s0 4 lh4_1.length), (9, ii (List.getD lh5_1 (Int.toNat x24_1) 0)), (10, pp 5 0), (22, s0 6 lh5_1.length), (23, ii x23_1), (24, ii x24_1)], [(6, rc (encI .i64) lh5_1 0 3 1), (5, .cells [.int .u32 (andNotV .u32 xh3_0_1 (shV true .u32 1 (List.getD lh5_1 (Int.toNat x24_1) 0))), .int .u32 xh3_1_1] 0 63 0), (4, rc (encI .i64) lh4_1 0 3 1), (3, .cells [.int .u32 xh3_0_1, .int .u32 xh3_1_1] 0 63 0), (2, .cells ([ii xh2_0_1, ii xh2_1_1, ii xh2_2_1] ++ rowC (encI .u32) lh2_1) 0 72 0), (1, rc (encI .i64) a_Frozen z1 y1 1), (0, rc (encI .i64) a_Sick z0 y0 1)], 7)) := by
              refine XA.step E0_ok [1, 6] (by kernel_rfl) rfl (by kernel_rfl) ⟨?_, ?_, trivial⟩
              · refine XR.runS E0_ok 1 1 [(4, pp 2 0), (5, pp 3 0), (7, s0 4 lh4_1.length), (9, ii (List.getD lh5_1 (Int.toNat x24_1) 0)), (10, pp 5 0), (22, s0 6 lh5_1.length), (23, ii x23_1), (24, ii x24_1), (29, .int .u32 xh3_0_1), (31, .int .u32 (shV true .u32 1 (List.getD lh5_1 (Int.toNat x24_1) 0))), (33, pp 3 1)] rfl (by kernel_rfl) ?_
                refine XR.done (by kernel_rfl) ?_
                refine ⟨rfl, ?_⟩
                show XA _ _ _ _ _ _ _ _ _ _
                exact xa11
              · refine XR.runS E0_ok 1 1 [(4, pp 2 0), (5, pp 3 0), (7, s0 4 lh4_1.length), (9, ii (List.getD lh5_1 (Int.toNat x24_1) 0)), (10, pp 5 0), (22, s0 6 lh5_1.length), (23, ii x23_1), (24, ii x24_1), (28, pp 3 0), (31, .int .u32 (shV true .u32 1 (List.getD lh5_1 (Int.toNat x24_1) 0))), (34, .int .u32 xh3_1_1)] rfl (by kernel_rfl) ?_
                refine XR.done (by kernel_rfl) ?_
                refine ⟨rfl, ?_⟩
                show XA _ _ _ _ _ _ _ _ _ _
                exact xa13
            have xa0 : XA E0 47 2 (opsOf (lft (rgt (lft (lft (rgt (rgt f16_L1))))))) 6 #[true, false, true, true, false, true, false, false, false, false] [(4, pp 2 0), (5, pp 3 0), (7, s0 4 lh4_1.length), (9, ii (List.getD lh5_1 (Int.toNat x24_1) 0)), (22, s0 5 lh5_1.length), (23, ii x23_1), (24, ii x24_1), (28, pp 3 0), (31, .int .u32 (shV true .u32 1 (List.getD lh5_1 (Int.toNat x24_1) 0))), (33, pp 3 1)] [(5, rc (encI .i64) lh5_1 0 3 1), (4, rc (encI .i64) lh4_1 0 3 1), (3, .cells [.int .u32 xh3_0_1, .int .u32 xh3_1_1] 0 63 0), (2, .cells ([ii xh2_0_1, ii xh2_1_1, ii xh2_2_1] ++ rowC (encI .u32) lh2_1) 0 72 0), (1, rc (encI .i64) a_Frozen z1 y1 1), (0, rc (encI .i64) a_Sick z0 y0 1)] 6 (fun xe xσ xh xc => xe = .normal ∧ (xσ, xh, xc) = ([(4, pp 2 0), (5, pp 3 0), (7, s0 4 lh4_1.length), (9, ii (List.getD lh5_1 (Int.toNat x24_1) 0)), (10, pp 5 0), (22, s0 6 lh5_1.length), (23, ii x23_1), (24, ii x24_1)], [(6, rc (encI .i64) lh5_1 0 3 1), (5, .cells [.int .u32 (andNotV .u32 xh3_0_1 (shV true .u32 1 (List.getD lh5_1 (Int.toNat x24_1) 0))), .int .u32 xh3_1_1] 0 63 0), (4, rc (encI .i64) lh4_1 0 3 1), (3, .cells [.int .u32 xh3_0_1, .int .u32 xh3_1_1] 0 63 0), (2, .cells ([ii xh2_0_1, ii xh2_1_1, ii xh2_2_1] ++ rowC (encI .u32) lh2_1) 0 72 0), (1, rc (encI .i64) a_Frozen z1 y1 1), (0, rc (encI .i64) a_Sick z0 y0 1)], 7)) := by
              refine XA.step E0_ok [1, 6, 8] (by kernel_rfl) rfl (by kernel_rfl) ⟨?_, ?_, ?_, trivial⟩
              · refine XR.runS E0_ok 1 1 [(4, pp 2 0), (5, pp 3 0), (7, s0 4 lh4_1.length), (9, ii (List.getD lh5_1 (Int.toNat x24_1) 0)), (22, s0 5 lh5_1.length), (23, ii x23_1), (24, ii x24_1), (29, .int .u32 xh3_0_1), (31, .int .u32 (shV true .u32 1 (List.getD lh5_1 (Int.toNat x24_1) 0))), (33, pp 3 1)] rfl (by kernel_rfl) ?_
                refine XR.done (by kernel_rfl) ?_
                refine ⟨rfl, ?_⟩
                show XA _ _ _ _ _ _ _ _ _ _
                exact xa1
              · refine XR.runS E0_ok 1 1 [(4, pp 2 0), (5, pp 3 0), (7, s0 4 lh4_1.length), (9, ii (List.getD lh5_1 (Int.toNat x24_1) 0)), (22, s0 5 lh5_1.length), (23, ii x23_1), (24, ii x24_1), (28, pp 3 0), (31, .int .u32 (shV true .u32 1 (List.getD lh5_1 (Int.toNat x24_1) 0))), (34, .int .u32 xh3_1_1)] rfl (by kernel_rfl) ?_
                refine XR.done (by kernel_rfl) ?_
                refine ⟨rfl, ?_⟩
                show XA _ _ _ _ _ _ _ _ _ _
                exact xa12
              · refine XR.runT E0_ok 1 1 [(4, pp 2 0), (5, pp 3 0), (7, s0 4 lh4_1.length), (9, ii (List.getD lh5_1 (Int.toNat x24_1) 0)), (10, pp 6 0), (22, s0 5 lh5_1.length), (23, ii x23_1), (24, ii x24_1), (28, pp 3 0), (31, .int .u32 (shV true .u32 1 (List.getD lh5_1 (Int.toNat x24_1) 0))), (33, pp 3 1)] [(6, .cells [.int .u32 0, .int .u32 0] 0 63 0), (5, rc (encI .i64) lh5_1 0 3 1), (4, rc (encI .i64) lh4_1 0 3 1), (3, .cells [.int .u32 xh3_0_1, .int .u32 xh3_1_1] 0 63 0), (2, .cells ([ii xh2_0_1, ii xh2_1_1, ii xh2_2_1] ++ rowC (encI .u32) lh2_1) 0 72 0), (1, rc (encI .i64) a_Frozen z1 y1 1), (0, rc (encI .i64) a_Sick z0 y0 1)] 7 rfl (by kernel_rfl) ?_
                refine XR.done (by kernel_rfl) ?_
                refine ⟨rfl, ?_⟩
                show XA _ _ _ _ _ _ _ _ _ _
                refine XA.ren (σ' := [(4, pp 2 0), (5, pp 3 0), (7, s0 4 lh4_1.length), (9, ii (List.getD lh5_1 (Int.toNat x24_1) 0)), (10, pp 5 0), (22, s0 6 lh5_1.length), (23, ii x23_1), (24, ii x24_1), (28, pp 3 0), (31, .int .u32 (shV true .u32 1 (List.getD lh5_1 (Int.toNat x24_1) 0))), (33, pp 3 1)]) (h' := [(6, rc (encI .i64) lh5_1 0 3 1), (5, .cells [.int .u32 0, .int .u32 0] 0 63 0), (4, rc (encI .i64) lh4_1 0 3 1), (3, .cells [.int .u32 xh3_0_1, .int .u32 xh3_1_1] 0 63 0), (2, .cells ([ii xh2_0_1, ii xh2_1_1, ii xh2_2_1] ++ rowC (encI .u32) lh2_1) 0 72 0), (1, rc (encI .i64) a_Frozen z1 y1 1), (0, rc (encI .i64) a_Sick z0 y0 1)]) (c' := 7) [0, 1, 2, 3, 4, 6, 5] (by decide) rfl ⟨by kernel_rfl, by kernel_rfl, by kernel_rfl, by kernel_rfl, by kernel_rfl, by kernel_rfl, by kernel_rfl, by kernel_rfl, by kernel_rfl, by kernel_rfl, by kernel_rfl, trivial⟩ ⟨⟨_, _, rfl, rfl, .inl ⟨rfl, rowC_scal (encI_ok .i64) _⟩⟩, ⟨_, _, rfl, rfl, .inr ⟨_, _, _, _, rfl, rfl⟩⟩, ⟨_, _, rfl, rfl, .inl ⟨rfl, rowC_scal (encI_ok .i64) _⟩⟩, ⟨_, _, rfl, rfl, .inr ⟨_, _, _, _, rfl, rfl⟩⟩, ⟨_, _, rfl, rfl, .inl ⟨rfl, preC_scal rfl (rowC_scal (encI_ok .u32) _)⟩⟩, ⟨_, _, rfl, rfl, .inl ⟨rfl, rowC_scal (encI_ok .i64) _⟩⟩, ⟨_, _, rfl, rfl, .inl ⟨rfl, rowC_scal (encI_ok .i64) _⟩⟩, trivial⟩ rfl ?_
                exact xa14
            refine XP.step E0_ok 2 [4, 5, 7, 9, 22, 23, 24, 28, 30] rfl (σ' := [(4, pp 2 0), (5, pp 3 0), (7, s0 4 lh4_1.length), (9, ii (List.getD lh5_1 (Int.toNat x24_1) 0)), (22, s0 5 lh5_1.length), (23, ii x23_1), (24, ii x24_1), (28, pp 3 0), (30, ii (List.getD lh5_1 (Int.toNat x24_1) 0))]) (by kernel_rfl) ?_
            have e6 : insV (headI ((gsOf E0 47 (reOps (opsOf (lft (rgt (lft (lft (rgt (rgt f16_L1))))))) [0, 2, 3, 5])).drop 2) (trS 47 [(4, pp 2 0), (5, pp 3 0), (7, s0 4 lh4_1.length), (9, ii (List.getD lh5_1 (Int.toNat x24_1) 0)), (22, s0 5 lh5_1.length), (23, ii x23_1), (24, ii x24_1), (28, pp 3 0), (30, ii (List.getD lh5_1 (Int.toNat x24_1) 0))])) (trS 47 [(4, pp 2 0), (5, pp 3 0), (7, s0 4 lh4_1.length), (9, ii (List.getD lh5_1 (Int.toNat x24_1) 0)), (22, s0 5 lh5_1.length), (23, ii x23_1), (24, ii x24_1), (28, pp 3 0), (30, ii (List.getD lh5_1 (Int.toNat x24_1) 0))]) [] = (match (decide (0 ≤ List.getD lh5_1 (Int.toNat x24_1) 0) : Bool) with | true => some (.int .u32 (shV true .u32 1 (List.getD lh5_1 (Int.toNat x24_1) 0))) | false => none) := by kernel_rfl
            refine XP.rd E0_ok (by kernel_rfl) [4, 5, 7, 9, 22, 23, 24, 28, 31] rfl rfl (e6.trans (by rw [b3])) (σ' := [(4, pp 2 0), (5, pp 3 0), (7, s0 4 lh4_1.length), (9, ii (List.getD lh5_1 (Int.toNat x24_1) 0)), (22, s0 5 lh5_1.length), (23, ii x23_1), (24, ii x24_1), (28, pp 3 0), (31, .int .u32 (shV true .u32 1 (List.getD lh5_1 (Int.toNat x24_1) 0)))]) (by kernel_rfl) ?_
            refine XP.step E0_ok 1 [4, 5, 7, 9, 22, 23, 24, 28, 31, 33] rfl (σ' := [(4, pp 2 0), (5, pp 3 0), (7, s0 4 lh4_1.length), (9, ii (List.getD lh5_1 (Int.toNat x24_1) 0)), (22, s0 5 lh5_1.length), (23, ii x23_1), (24, ii x24_1), (28, pp 3 0), (31, .int .u32 (shV true .u32 1 (List.getD lh5_1 (Int.toNat x24_1) 0))), (33, pp 3 1)]) (by kernel_rfl) ?_
            refine XP.done (by kernel_rfl) ?_
            show XA _ _ _ _ _ _ _ _ _ _
            exact xa0
    | false =>
      have h := cF b1 h
      refine XQ.cond (s := (.tmp 25)) (b := false) (by kernel_rfl) (by kernel_rfl) (fun q => by cases q) (fun _ => ?_)
      refine XQ.ren (σ' := [(7, s0 2 lh4_1.length)]) (h' := [(2, rc (encI .i64) lh4_1 0 3 1), (1, rc (encI .i64) a_Frozen z1 y1 1), (0, rc (encI .i64) a_Sick z0 y0 1)]) (c' := 3) [0, 1, 4] (by decide) rfl ⟨by kernel_rfl, trivial⟩ ⟨⟨_, _, rfl, rfl, .inl ⟨rfl, rowC_scal (encI_ok .i64) _⟩⟩, ⟨_, _, rfl, rfl, .inl ⟨rfl, rowC_scal (encI_ok .i64) _⟩⟩, ⟨_, _, rfl, rfl, .inl ⟨rfl, rowC_scal (encI_ok .i64) _⟩⟩, trivial⟩ rfl ?_
      refine XQ.exit (i := 0) (by kernel_rfl) ?_
      cases h
      exact hQ

def f16 (m : Nat) (a_Rows : Int) (a_Columns : Int) (a_Sick : List Int) (a_Frozen : List Int) : Option ((List Int) × Int) :=
  (f24 m a_Rows a_Columns a_Sick a_Frozen).bind fun r1 =>
    cond (r1.2.2.2.2.2.2 != 0) (
      some ([], r1.2.2.2.2.2.2)
    ) (
      (f37 m r1.2.2.2.2.1).bind fun r2 =>
        (f16_1 m m a_Sick a_Frozen ((r2.length : Nat) : Int) 0 r1.1 r1.2.1 r1.2.2.1 r1.2.2.2.1 r1.2.2.2.2.1 r1.2.2.2.2.2.1 [] r2).bind fun o1 =>
          some (o1, 0)
    )

theorem f16_ok (m : Nat) (z0 : Nat) (y0 : Nat) (z1 : Nat) (y1 : Nat) (a_Rows : Int) (a_Columns : Int) (a_Sick : List Int) (a_Frozen : List Int) (o : (List Int) × Int) (h : f16 m a_Rows a_Columns a_Sick a_Frozen = some o) : KC E0 16 [.agg #[ii a_Rows, ii a_Columns, s0 0 a_Sick.length, s0 1 a_Frozen.length]] [(1, rc (encI .i64) a_Frozen z1 y1 1), (0, rc (encI .i64) a_Sick z0 y0 1)] 2 (fun v h' c' => v = .tuple #[s0 2 o.1.length, ii o.2] ∧ h' = [(2, rc (encI .i64) o.1 0 3 1)] ++ [(1, rc (encI .i64) a_Frozen z1 y1 1), (0, rc (encI .i64) a_Sick z0 y0 1)] ∧ c' = 3) := by
  refine KC.bodyN E0_ok (F := Proofs.Tryz.f16) (by kernel_rfl) (code := f16_C16) (by kernel_rfl) (nt := 47) (by kernel_rfl) (rs := [.tmp 2, .tmp 3]) (by kernel_rfl) (by kernel_rfl) (σ := [(0, .agg #[ii a_Rows, ii a_Columns, s0 0 a_Sick.length, s0 1 a_Frozen.length])]) (by kernel_rfl) ?_
  unfold f16 at h
  refine XQ.seq E0_ok (by kernel_rfl) ?_
  refine XQ.region (by kernel_rfl) ?_
  refine XR.runT E0_ok 1 3 [(1, pp 2 0)] [(2, .cells [ii a_Rows, ii a_Columns, s0 0 a_Sick.length, s0 1 a_Frozen.length] 0 29 0), (1, rc (encI .i64) a_Frozen z1 y1 1), (0, rc (encI .i64) a_Sick z0 y0 1)] 3 rfl (by kernel_rfl) ?_
  refine XR.done (by kernel_rfl) ?_
  show XQ _ _ _ _ _ _ _ _
  refine XQ.seq E0_ok (by kernel_rfl) ?_
  refine XQ.region (by kernel_rfl) ?_
  refine XR.runS E0_ok 1 1 [(12, .agg #[ii a_Rows, ii a_Columns, s0 0 a_Sick.length, s0 1 a_Frozen.length])] rfl (by kernel_rfl) ?_
  obtain ⟨r1, r1_h, h⟩ := bS h
  refine XR.call E0_ok [13] rfl (K := 24) (args := [.agg #[ii a_Rows, ii a_Columns, s0 0 a_Sick.length, s0 1 a_Frozen.length]]) (d := (some (path 12 13))) (by kernel_rfl) (KC.liftH (n0 := 2) (m := 1) (args0 := [.agg #[ii a_Rows, ii a_Columns, s0 0 a_Sick.length, s0 1 a_Frozen.length]]) (h0 := [(1, rc (encI .i64) a_Frozen (z1 + ((rowC (encI .i64) a_Frozen).length + 1)) y1 1), (0, rc (encI .i64) a_Sick (z0 + ((rowC (encI .i64) a_Sick).length + 1)) y0 1)]) (V := .tuple #[pp 2 0, .agg #[.int .u32 r1.2.2.2.2.1, .int .u32 r1.2.2.2.2.2.1], ii r1.2.2.2.2.2.2]) (V2 := .tuple #[pp 3 0, .agg #[.int .u32 r1.2.2.2.2.1, .int .u32 r1.2.2.2.2.2.1], ii r1.2.2.2.2.2.2]) (H := [(2, .cells ([ii r1.1, ii r1.2.1, ii r1.2.2.1] ++ rowC (encI .u32) r1.2.2.2.1) 0 72 0)]) (H2 := [(3, .cells ([ii r1.1, ii r1.2.1, ii r1.2.2.1] ++ rowC (encI .u32) r1.2.2.2.1) 0 72 0)]) [0, 1] [3, 4, 5, 2] (f24_ok m (z0 + ((rowC (encI .i64) a_Sick).length + 1)) y0 (z1 + ((rowC (encI .i64) a_Frozen).length + 1)) y1 a_Rows a_Columns a_Sick a_Frozen r1 r1_h) (by rfl) (by decide) rfl (by kernel_rfl) ⟨⟨_, _, rfl, rfl, .inl ⟨rfl, rowC_scal (encI_ok .i64) _⟩⟩, ⟨_, _, rfl, rfl, .inl ⟨rfl, rowC_scal (encI_ok .i64) _⟩⟩, trivial⟩ (by decide) (by decide) (by kernel_rfl) ⟨⟨_, _, rfl, rfl, .inl ⟨rfl, preC_scal rfl (rowC_scal (encI_ok .u32) _)⟩⟩, trivial⟩ (by rfl)) ?_
  rintro _ _ _ ⟨rfl, rfl, rfl⟩
  refine XR.conv (σ' := [(13, .tuple #[pp 3 0, .agg #[.int .u32 r1.2.2.2.2.1, .int .u32 r1.2.2.2.2.2.1], ii r1.2.2.2.2.2.2])]) (h' := [(3, .cells ([ii r1.1, ii r1.2.1, ii r1.2.2.1] ++ rowC (encI .u32) r1.2.2.2.1) 0 72 0), (2, .cells [ii a_Rows, ii a_Columns, s0 0 a_Sick.length, s0 1 a_Frozen.length] 0 29 0), (1, rc (encI .i64) a_Frozen z1 y1 1), (0, rc (encI .i64) a_Sick z0 y0 1)]) (c' := 4) ?_ (by kernel_rfl)
  refine XR.runT E0_ok 1 8 [(4, pp 3 0), (5, pp 4 0), (6, ii r1.2.2.2.2.2.2)] [(4, .cells [.int .u32 r1.2.2.2.2.1, .int .u32 r1.2.2.2.2.2.1] 0 63 0), (3, .cells ([ii r1.1, ii r1.2.1, ii r1.2.2.1] ++ rowC (encI .u32) r1.2.2.2.1) 0 72 0), (2, .cells [ii a_Rows, ii a_Columns, s0 0 a_Sick.length, s0 1 a_Frozen.length] 0 29 0), (1, rc (encI .i64) a_Frozen z1 y1 1), (0, rc (encI .i64) a_Sick z0 y0 1)] 5 rfl (by kernel_rfl) ?_
  refine XR.done (by kernel_rfl) ?_
  show XQ _ _ _ _ _ _ _ _
  refine XQ.seq E0_ok (by kernel_rfl) ?_
  refine XQ.seq E0_ok (by kernel_rfl) ?_
  refine XQ.region (by kernel_rfl) ?_
  refine XR.runS E0_ok 1 2 [(4, pp 3 0), (5, pp 4 0), (6, ii r1.2.2.2.2.2.2), (18, .bool (r1.2.2.2.2.2.2 != 0))] rfl (by kernel_rfl) ?_
  refine XR.done (by kernel_rfl) ?_
  show XQ _ _ _ _ _ _ _ _
  cases b1 : (r1.2.2.2.2.2.2 != 0 : Bool) with
  | true =>
    have h := cT b1 h
    refine XQ.cond (s := (.tmp 18)) (b := true) (by kernel_rfl) (by kernel_rfl) (fun _ => ?_) (fun q => by cases q)
    refine XQ.seq E0_ok (by kernel_rfl) ?_
    refine XQ.region (by kernel_rfl) ?_
    refine XR.runS E0_ok 1 3 [(2, .slice none 0 0), (3, ii r1.2.2.2.2.2.2)] rfl (by kernel_rfl) ?_
    refine XR.done (by kernel_rfl) ?_
    show XQ _ _ _ _ _ _ _ _
    refine XQ.ghost 3 1 rfl (σ' := [(2, s0 5 0), (3, ii r1.2.2.2.2.2.2)]) (h' := [(4, .cells [.int .u32 r1.2.2.2.2.1, .int .u32 r1.2.2.2.2.2.1] 0 63 0), (3, .cells ([ii r1.1, ii r1.2.1, ii r1.2.2.1] ++ rowC (encI .u32) r1.2.2.2.1) 0 72 0), (2, .cells [ii a_Rows, ii a_Columns, s0 0 a_Sick.length, s0 1 a_Frozen.length] 0 29 0), (1, rc (encI .i64) a_Frozen z1 y1 1), (0, rc (encI .i64) a_Sick z0 y0 1)]) ⟨by kernel_rfl, by kernel_rfl, trivial⟩ ⟨⟨_, rfl, .inl rfl⟩, ⟨_, rfl, .inl rfl⟩, ⟨_, rfl, .inl rfl⟩, ⟨_, rfl, .inl rfl⟩, ⟨_, rfl, .inl rfl⟩, trivial⟩ ?_
    refine XQ.conv (σ' := [(2, s0 5 0), (3, ii r1.2.2.2.2.2.2)]) (h' := [(5, rc (encI .i64) [] 0 3 1), (4, .cells [.int .u32 r1.2.2.2.2.1, .int .u32 r1.2.2.2.2.2.1] 0 63 0), (3, .cells ([ii r1.1, ii r1.2.1, ii r1.2.2.1] ++ rowC (encI .u32) r1.2.2.2.1) 0 72 0), (2, .cells [ii a_Rows, ii a_Columns, s0 0 a_Sick.length, s0 1 a_Frozen.length] 0 29 0), (1, rc (encI .i64) a_Frozen z1 y1 1), (0, rc (encI .i64) a_Sick z0 y0 1)]) (c' := 6) ?_ (by kernel_rfl)
    refine XQ.ren (σ' := [(2, s0 2 0), (3, ii r1.2.2.2.2.2.2)]) (h' := [(2, rc (encI .i64) [] 0 3 1), (1, rc (encI .i64) a_Frozen z1 y1 1), (0, rc (encI .i64) a_Sick z0 y0 1)]) (c' := 3) [0, 1, 5] (by decide) rfl ⟨by kernel_rfl, by kernel_rfl, trivial⟩ ⟨⟨_, _, rfl, rfl, .inl ⟨rfl, rowC_scal (encI_ok .i64) _⟩⟩, ⟨_, _, rfl, rfl, .inl ⟨rfl, rowC_scal (encI_ok .i64) _⟩⟩, ⟨_, _, rfl, rfl, .inl ⟨rfl, rowC_scal (encI_ok .i64) _⟩⟩, trivial⟩ rfl ?_
    refine XQ.ret (by kernel_rfl) ?_
    have h := Option.some.inj h
    subst h
    exact ⟨fun i q => (by cases q), .tuple #[s0 2 0, ii r1.2.2.2.2.2.2], (by kernel_rfl), (by kernel_rfl), (by kernel_rfl), rfl⟩
  | false =>
    have h := cF b1 h
    refine XQ.cond (s := (.tmp 18)) (b := false) (by kernel_rfl) (by kernel_rfl) (fun q => by cases q) (fun _ => ?_)
    refine XQ.skip (by kernel_rfl) ?_
    show XQ _ _ _ _ _ _ _ _
    refine XQ.seq E0_ok (by kernel_rfl) ?_
    refine XQ.region (by kernel_rfl) ?_
    refine XR.runS E0_ok 1 1 [(4, pp 3 0), (5, pp 4 0), (7, .slice none 0 0)] rfl (by kernel_rfl) ?_
    refine XR.done (by kernel_rfl) ?_
    show XQ _ _ _ _ _ _ _ _
    refine XQ.ghost 3 1 rfl (σ' := [(4, pp 3 0), (5, pp 4 0), (7, s0 5 0)]) (h' := [(4, .cells [.int .u32 r1.2.2.2.2.1, .int .u32 r1.2.2.2.2.2.1] 0 63 0), (3, .cells ([ii r1.1, ii r1.2.1, ii r1.2.2.1] ++ rowC (encI .u32) r1.2.2.2.1) 0 72 0), (2, .cells [ii a_Rows, ii a_Columns, s0 0 a_Sick.length, s0 1 a_Frozen.length] 0 29 0), (1, rc (encI .i64) a_Frozen z1 y1 1), (0, rc (encI .i64) a_Sick z0 y0 1)]) ⟨by kernel_rfl, by kernel_rfl, by kernel_rfl, trivial⟩ ⟨⟨_, rfl, .inl rfl⟩, ⟨_, rfl, .inl rfl⟩, ⟨_, rfl, .inl rfl⟩, ⟨_, rfl, .inl rfl⟩, ⟨_, rfl, .inl rfl⟩, trivial⟩ ?_
    refine XQ.conv (σ' := [(4, pp 3 0), (5, pp 4 0), (7, s0 5 0)]) (h' := [(5, rc (encI .i64) [] 0 3 1), (4, .cells [.int .u32 r1.2.2.2.2.1, .int .u32 r1.2.2.2.2.2.1] 0 63 0), (3, .cells ([ii r1.1, ii r1.2.1, ii r1.2.2.1] ++ rowC (encI .u32) r1.2.2.2.1) 0 72 0), (2, .cells [ii a_Rows, ii a_Columns, s0 0 a_Sick.length, s0 1 a_Frozen.length] 0 29 0), (1, rc (encI .i64) a_Frozen z1 y1 1), (0, rc (encI .i64) a_Sick z0 y0 1)]) (c' := 6) ?_ (by kernel_rfl)
    refine XQ.seq E0_ok (by kernel_rfl) ?_
    refine XQ.seq E0_ok (by kernel_rfl) ?_
    refine XQ.region (by kernel_rfl) ?_
    refine XR.runS E0_ok 1 2 [(4, pp 3 0), (5, pp 4 0), (7, s0 5 0), (21, .int .u32 r1.2.2.2.2.1)] rfl (by kernel_rfl) ?_
    obtain ⟨r2, r2_h, h⟩ := bS h
    refine XR.call E0_ok [4, 5, 7, 22] rfl (K := 37) (args := [.int .u32 r1.2.2.2.2.1]) (d := (some (path 12 22))) (by kernel_rfl) (KC.lift (V2 := s0 6 r2.length) (H2 := [(6, rc (encI .i64) r2 0 3 1)]) [1, 2, 3, 4, 5, 6, 0] (f37_ok m r1.2.2.2.2.1 r2 r2_h) rfl (by decide) (by decide) (by kernel_rfl) ⟨⟨_, _, rfl, rfl, .inl ⟨rfl, rowC_scal (encI_ok .i64) _⟩⟩, trivial⟩ (by rfl)) ?_
    rintro _ _ _ ⟨rfl, rfl, rfl⟩
    refine XR.conv (σ' := [(4, pp 3 0), (5, pp 4 0), (7, s0 5 0), (22, s0 6 r2.length)]) (h' := [(6, rc (encI .i64) r2 0 3 1), (5, rc (encI .i64) [] 0 3 1), (4, .cells [.int .u32 r1.2.2.2.2.1, .int .u32 r1.2.2.2.2.2.1] 0 63 0), (3, .cells ([ii r1.1, ii r1.2.1, ii r1.2.2.1] ++ rowC (encI .u32) r1.2.2.2.1) 0 72 0), (2, .cells [ii a_Rows, ii a_Columns, s0 0 a_Sick.length, s0 1 a_Frozen.length] 0 29 0), (1, rc (encI .i64) a_Frozen z1 y1 1), (0, rc (encI .i64) a_Sick z0 y0 1)]) (c' := 7) ?_ (by kernel_rfl)
    refine XR.runS E0_ok 1 2 [(4, pp 3 0), (5, pp 4 0), (7, s0 5 0), (22, s0 6 r2.length), (23, ii ((r2.length : Nat) : Int)), (24, ii 0)] rfl (by kernel_rfl) ?_
    refine XR.done (by kernel_rfl) ?_
    show XQ _ _ _ _ _ _ _ _
    refine XQ.block (id := 0) (by kernel_rfl) ?_
    refine XQ.loop m (by kernel_rfl) ?_
    obtain ⟨o1, o1_h, h⟩ := bS h
    refine XL.ren (σ' := [(4, pp 2 0), (5, pp 3 0), (7, s0 4 0), (22, s0 5 r2.length), (23, ii ((r2.length : Nat) : Int)), (24, ii 0)]) (h' := [(5, rc (encI .i64) r2 0 3 1), (4, rc (encI .i64) [] 0 3 1), (3, .cells [.int .u32 r1.2.2.2.2.1, .int .u32 r1.2.2.2.2.2.1] 0 63 0), (2, .cells ([ii r1.1, ii r1.2.1, ii r1.2.2.1] ++ rowC (encI .u32) r1.2.2.2.1) 0 72 0), (1, rc (encI .i64) a_Frozen z1 y1 1), (0, rc (encI .i64) a_Sick z0 y0 1)]) (c' := 6) [0, 1, 3, 4, 5, 6] (by decide) rfl ⟨by kernel_rfl, by kernel_rfl, by kernel_rfl, by kernel_rfl, by kernel_rfl, by kernel_rfl, trivial⟩ ⟨⟨_, _, rfl, rfl, .inl ⟨rfl, rowC_scal (encI_ok .i64) _⟩⟩, ⟨_, _, rfl, rfl, .inl ⟨rfl, rowC_scal (encI_ok .i64) _⟩⟩, ⟨_, _, rfl, rfl, .inr ⟨_, _, _, _, rfl, rfl⟩⟩, ⟨_, _, rfl, rfl, .inl ⟨rfl, preC_scal rfl (rowC_scal (encI_ok .u32) _)⟩⟩, ⟨_, _, rfl, rfl, .inl ⟨rfl, rowC_scal (encI_ok .i64) _⟩⟩, ⟨_, _, rfl, rfl, .inl ⟨rfl, rowC_scal (encI_ok .i64) _⟩⟩, trivial⟩ rfl ?_
    refine XL.conv (f16_1_ok m m z0 y0 z1 y1 a_Sick a_Frozen ((r2.length : Nat) : Int) 0 r1.1 r1.2.1 r1.2.2.1 r1.2.2.2.1 r1.2.2.2.2.1 r1.2.2.2.2.2.1 [] r2 o1 o1_h _ ?_) (by first | with_reducible rfl | simp | rfl)
    show XQ _ _ _ _ _ _ _ _
    refine XQ.seq E0_ok (by kernel_rfl) ?_
    refine XQ.region (by kernel_rfl) ?_
    refine XR.runS E0_ok 1 3 [(2, s0 2 o1.length), (3, ii 0)] rfl (by kernel_rfl) ?_
    refine XR.done (by kernel_rfl) ?_
    show XQ _ _ _ _ _ _ _ _
    refine XQ.ren (σ' := [(2, s0 2 o1.length), (3, ii 0)]) (h' := [(2, rc (encI .i64) o1 0 3 1), (1, rc (encI .i64) a_Frozen z1 y1 1), (0, rc (encI .i64) a_Sick z0 y0 1)]) (c' := 3) [0, 1, 2] (by decide) rfl ⟨by kernel_rfl, by kernel_rfl, trivial⟩ ⟨⟨_, _, rfl, rfl, .inl ⟨rfl, rowC_scal (encI_ok .i64) _⟩⟩, ⟨_, _, rfl, rfl, .inl ⟨rfl, rowC_scal (encI_ok .i64) _⟩⟩, ⟨_, _, rfl, rfl, .inl ⟨rfl, rowC_scal (encI_ok .i64) _⟩⟩, trivial⟩ rfl ?_
    refine XQ.ret (by kernel_rfl) ?_
    have h := Option.some.inj h
    subst h
    exact ⟨fun i q => (by cases q), .tuple #[s0 2 o1.length, ii 0], (by kernel_rfl), (by kernel_rfl), (by kernel_rfl), rfl⟩

end Go.Xm

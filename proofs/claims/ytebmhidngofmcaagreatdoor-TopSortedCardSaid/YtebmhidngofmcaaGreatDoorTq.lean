/- dock.Serves and dock.Way at sorted wishes, in the machine's tables; runs of TopSorted's inner function that are told by a table. Conditions: the library's tables lie in their variables. -/
import Derived.Test.YtebmhidngofmcaaGreatDoorTa1
import Derived.Test.YtebmhidngofmcaaGreatDoorTa2
import Derived.Test.YtebmhidngofmcaaGreatDoorTb1
import Derived.Test.YtebmhidngofmcaaGreatDoorTb2
import Derived.Test.YtebmhidngofmcaaGreatDoorTb3
import Derived.Test.YtebmhidngofmcaaGreatDoorTb4
import Derived.Test.YtebmhidngofmcaaGreatDoorTb5
import Derived.Test.YtebmhidngofmcaaGreatDoorTb6
import Derived.Test.YtebmhidngofmcaaGreatDoorRa
import Derived.Test.YtebmhidngofmcaaGreatDoorTx
namespace Go.Xm
open Go.RowKit
set_option maxRecDepth 20000

theorem all_of {n : Nat} (h : ((ascL n n 0).drop 0).all (oneOk n) = true) : ∀ l ∈ ascL n n 0, oneOk n l = true := List.all_eq_true.1 h

theorem all1 : ∀ l ∈ ascL 1 1 0, oneOk 1 l = true := all_of (tab_cons tab1 (tab_end (by kernel_rfl)))
theorem all2 : ∀ l ∈ ascL 2 2 0, oneOk 2 l = true := all_of (tab_cons tab2 (tab_end (by kernel_rfl)))
theorem all3 : ∀ l ∈ ascL 3 3 0, oneOk 3 l = true := all_of (tab_cons tab3 (tab_end (by kernel_rfl)))
theorem all4 : ∀ l ∈ ascL 4 4 0, oneOk 4 l = true := all_of (tab_cons tab4 (tab_end (by kernel_rfl)))
theorem all5 : ∀ l ∈ ascL 5 5 0, oneOk 5 l = true := all_of (tab_cons tab5a (tab_cons tab5b (tab_cons tab5c (tab_end (by kernel_rfl)))))
theorem all6 : ∀ l ∈ ascL 6 6 0, oneOk 6 l = true :=
  all_of (tab_cons tab6_0 (tab_cons tab6_42 (tab_cons tab6_84 (tab_cons tab6_126 (tab_cons tab6_168 (tab_cons tab6_210 (tab_cons tab6_252 (tab_cons tab6_294 (tab_cons tab6_336 (tab_cons tab6_378 (tab_cons tab6_420 (tab_end (by kernel_rfl)))))))))))))

def natsV : List Value → Option (List Nat)
  | [] => some []
  | .int .i64 (.ofNat n) :: l => match natsV l with
    | some ns => some (n :: ns)
    | none => none
  | _ => none

theorem natsV_eq : ∀ {cs : List Value} {l : List Nat}, natsV cs = some l → cs = cellsI l
  | [], l, h => by cases h; rfl
  | v :: cs, l, h => by
    unfold natsV at h
    split at h
    · rename_i e; cases e
    · rename_i n l0 e
      cases e
      split at h
      · rename_i ns hn
        cases h
        rw [natsV_eq hn]
        rfl
      · cases h
    · cases h

def rowOk (n len : Nat) (l : List Nat) : Bool := Nat.ble 1 n && (Nat.ble n 6 && (Nat.beq l.length n && (Nat.beq len n && ascOk n 0 l)))

theorem row_ok {n len : Nat} {l : List Nat} (h : rowOk n len l = true) : oneOk n l = true ∧ l.length = n ∧ len = n := by
  unfold rowOk at h
  simp only [Bool.and_eq_true] at h
  obtain ⟨h1, h2, h3, h4, h5⟩ := h
  have h1 := Nat.le_of_ble_eq_true h1
  have h2 := Nat.le_of_ble_eq_true h2
  have h3 := Nat.eq_of_beq_eq_true h3
  have h4 := Nat.eq_of_beq_eq_true h4
  have hm := mem_asc l 0 h5
  rw [h3] at hm
  refine ⟨?_, h3, h4⟩
  have hn : n = 1 ∨ n = 2 ∨ n = 3 ∨ n = 4 ∨ n = 5 ∨ n = 6 := by omega
  rcases hn with rfl | rfl | rfl | rfl | rfl | rfl
  · exact all1 l hm
  · exact all2 l hm
  · exact all3 l hm
  · exact all4 l hm
  · exact all5 l hm
  · exact all6 l hm

def fS (z : Int) (len : Nat) (cs : List Value) : Option Value :=
  match z, natsV cs with
  | .ofNat n, some l => match rowOk n len l with
    | true => some (.tuple #[.bool (parkN 0 l), .int .i64 0])
    | false => none
  | _, _ => none

def fW (z : Int) (len : Nat) (cs : List Value) : Option Value :=
  match z, natsV cs with
  | .ofNat n, some l => match (rowOk n len l && parkN 0 l) with
    | true => some (.tuple #[.int .i64 (.ofNat (wayN 0 l)), .int .i64 0])
    | false => none
  | _, _ => none

theorem fS_ok (z : Int) (len : Nat) (cs : List Value) (v : Value) (h : fS z len cs = some v) : plain v = true ∧ KC Em 5 [.int .i64 z, .slice (some ⟨0, 0, none⟩) len cs.length] (rowH 3 cs) 1 (fun v1 _ _ => v1 = v) := by
  unfold fS at h
  split at h
  · rename_i n l hl
    have hl := natsV_eq hl
    subst hl
    split at h
    · rename_i hr
      cases h
      obtain ⟨h1, h2, h3⟩ := row_ok hr
      unfold oneOk at h1
      rw [Bool.and_eq_true] at h1
      have e := okS_eq h1.1
      refine ⟨rfl, KC.fast (KC.run (fastEnv_ok Em_ok) (n := 1000) (F := Proofs.Tryz.f5) (by kernel_rfl) ?_)⟩
      rw [h3, ← h2]
      unfold rowR at e
      rw [← h2] at e
      exact e
    · cases h
  · cases h

theorem fW_ok (z : Int) (len : Nat) (cs : List Value) (v : Value) (h : fW z len cs = some v) : plain v = true ∧ KC Em 6 [.int .i64 z, .slice (some ⟨0, 0, none⟩) len cs.length] (rowH 3 cs) 1 (fun v1 _ _ => v1 = v) := by
  unfold fW at h
  split at h
  · rename_i n l hl
    have hl := natsV_eq hl
    subst hl
    split at h
    · rename_i hr
      cases h
      rw [Bool.and_eq_true] at hr
      obtain ⟨h1, h2, h3⟩ := row_ok hr.1
      unfold oneOk at h1
      rw [Bool.and_eq_true, hr.2] at h1
      have e := okW_eq h1.2
      refine ⟨rfl, KC.fast (KC.run (fastEnv_ok Em_ok) (n := 1000) (F := Proofs.Tryz.f6) (by kernel_rfl) ?_)⟩
      rw [h3, ← h2]
      unfold rowR at e
      rw [← h2] at e
      exact e
    · cases h
  · cases h

noncomputable def E3 : Env := withTab (withTab E2 5 3 fS) 6 3 fW
theorem E3_ok : E3.Ok := withTab_ok (withTab_ok E2_ok (F := Proofs.Tryz.f5) (by kernel_rfl) fS_ok) (F := Proofs.Tryz.f6) (by kernel_rfl) fW_ok

end Go.Xm

namespace Go.Xm

noncomputable def argQ (b l f : Nat) : List Value := [.slice (some ⟨b, 0, none⟩) l l, ii (.ofNat f), pp 2 0, pp 0 0, pp 3 0, pp 1 0]
noncomputable def hpQ (n : Nat) : Heap := [(3, .cells [.func (.func 4) #[] #[pp 2 0, pp 0 0, pp 3 0, pp 1 0]] 0 22 0), (2, .cells [.bool true] 0 4 0), (1, .cells [ii (.ofNat n)] 0 3 0), (0, .cells [ii (.ofNat 6)] 0 3 0)]
noncomputable def rowQ (l : List Nat) : XObj := .cells (cellsI l) 0 3 1
noncomputable def hQ1 (n : Nat) : Heap := (7, rowQ [0, 0]) :: (6, rowQ [0]) :: (5, .was (cellsI [0]) 7 0 3 1) :: (4, rowQ [0]) :: hpQ n
noncomputable def hQ2 (n : Nat) : Heap := (427, rowQ [0, 1]) :: (426, rowQ [1]) :: (6, rowQ [0]) :: (5, .was (cellsI [0]) 427 0 3 1) :: (4, rowQ [0]) :: hpQ n
noncomputable def hQ3 (n : Nat) : Heap := (929, rowQ [1]) :: (928, rowQ [1]) :: (5, rowQ [0]) :: (4, rowQ [0]) :: hpQ n

noncomputable def mQ1 : Run1 := ⟨argQ 7 2 0, hQ1 0, 8, .tuple #[], hQ1 90, 426⟩
noncomputable def mQ2 : Run1 := ⟨argQ 427 2 1, hQ2 90, 428, .tuple #[], hQ2 132, 678⟩
noncomputable def mQ3 : Run1 := ⟨argQ 929 1 1, hQ3 132, 930, .tuple #[], hQ3 132, 1432⟩

end Go.Xm

/- Short forms of the abstract machine's rules, at this program's tables. Conditions: none. -/
import Derived.Test.YtglkjlafglpalaaGreatDoorEe
import Derived.Test.YtglkjlafglpalaaGreatDoorNm
import Derived.Test.YtglkjlafglpalaaGreatDoorMp
import Derived.Maps.RangeWalk
import Derived.Maps.AppendAt
namespace Go.Xm
open Go.RowKit
set_option linter.unusedVariables false
theorem oC {α : Type} {c : Bool} {x : Option α} {o : α} (h : cond c x none = some o) : c = true ∧ x = some o := by
 cases c with
 | true => exact ⟨rfl, h⟩
 | false => cases h
theorem sQ {nt k : Nat} {code : Code} {σ : St} {h : Heap} {c : Nat} {Q : QP} (hx : XQ E0 nt k (lft code) σ h c (Then (fun σ h c => XQ E0 nt k (rgt code) σ h c Q) Q)) (hs : isSeq code = true := by kernel_rfl) : XQ E0 nt k code σ h c Q := XQ.seq E0_ok hs hx
theorem rQ {nt k : Nat} {code : Code} {σ : St} {h : Heap} {c : Nat} {Q : QP} (hx : XR E0 nt k (opsOf code) 0 σ h c Q) (hs : drawOf code = some false := by kernel_rfl) : XQ E0 nt k code σ h c Q := XQ.region hs hx
theorem qQ {nt k : Nat} {code : Code} {σ : St} {h : Heap} {c : Nat} {Q : QP} (hx : XR E0 nt k (opsOf (lft code)) 0 σ h c (Then (fun σ h c => XQ E0 nt k (rgt code) σ h c Q) Q)) (hs : isSeq code = true := by kernel_rfl) (hd : drawOf (lft code) = some false := by kernel_rfl) : XQ E0 nt k code σ h c Q := XQ.seq E0_ok hs (XQ.region hd hx)
theorem dQ {nt k : Nat} {ops : Array Oper} {j : Nat} {σ : St} {h : Heap} {c : Nat} {Q : QP} (hq : Q .normal σ h c) (hj : Nat.ble ops.size j = true := by kernel_rfl) : XR E0 nt k ops j σ h c Q := XR.done hj hq
theorem eQ {nt k : Nat} {ops : Array Oper} {j : Nat} {code : Code} {σ : St} {h : Heap} {c : Nat} {Q Q' : QP} (e : XQ E0 nt k code σ h c Q' → Q .normal σ h c) (hx : XQ E0 nt k code σ h c Q') (hj : Nat.ble ops.size j = true := by kernel_rfl) : XR E0 nt k ops j σ h c Q := XR.done hj (e hx)
theorem nQ {nt k : Nat} {ops : Array Oper} {j : Nat} {code : Code} {σ : St} {h : Heap} {c : Nat} {Q Q' : QP} (e : XQ E0 nt k code σ h c Q' → Q .normal σ h c) (hx : XR E0 nt k (opsOf (lft code)) 0 σ h c (Then (fun σ h c => XQ E0 nt k (rgt code) σ h c Q') Q'))
 (hs : isSeq code = true := by kernel_rfl) (hd : drawOf (lft code) = some false := by kernel_rfl) (hj : Nat.ble ops.size j = true := by kernel_rfl) : XR E0 nt k ops j σ h c Q := XR.done hj (e (XQ.seq E0_ok hs (XQ.region hd hx)))
theorem rS {nt k : Nat} {ops : Array Oper} {j : Nat} (m : Nat) (σ' : St) {σ : St} {h : Heap} {c : Nat} {Q : QP} (hx : XR E0 nt k ops (j + m) σ' h c Q) (hl : (σ'.map Prod.fst).all (fun i => Nat.blt i nt) = true := by rfl)
 (hr : obsO (σ'.map Prod.fst) (xops (callF E0 (exec E0 1)) (((gsOf E0 nt ops).drop j).take m) (trS nt σ) h c) = some (σ', h, c) := by kernel_rfl) : XR E0 nt k ops j σ h c Q := XR.runS E0_ok 1 m σ' hl hr hx
theorem rD {nt k : Nat} {ops : Array Oper} {j : Nat} (m : Nat) (σ' : St) (D : Heap → Heap) (c' : Nat) {σ : St} {h : Heap} {c : Nat} {Q : QP} (hx : XR E0 nt k ops (j + m) σ' (D h) c' Q) (hl : (σ'.map Prod.fst).all (fun i => Nat.blt i nt) = true := by rfl)
 (hr : obsO (σ'.map Prod.fst) (xops (callF E0 (exec E0 1)) (((gsOf E0 nt ops).drop j).take m) (trS nt σ) h c) = some (σ', D h, c') := by kernel_rfl) : XR E0 nt k ops j σ h c Q := XR.runD E0_ok 1 m σ' D c' hl hr hx
theorem iT {nt k : Nat} {code : Code} (s : Nat) {σ : St} {h : Heap} {c : Nat} {Q : QP} (hx : XQ E0 nt k (lft code) σ h c Q) (hs : condOf code = some (.tmp s) := by kernel_rfl) (hb : ev (trS nt σ) (src nt (.tmp s)) = .bool true := by kernel_rfl) : XQ E0 nt k code σ h c Q :=
 XQ.cond hs hb (fun _ => hx) (fun q => by cases q)
theorem iF {nt k : Nat} {code : Code} (s : Nat) {σ : St} {h : Heap} {c : Nat} {Q : QP} (hx : XQ E0 nt k (rgt code) σ h c Q) (hs : condOf code = some (.tmp s) := by kernel_rfl) (hb : ev (trS nt σ) (src nt (.tmp s)) = .bool false := by kernel_rfl) : XQ E0 nt k code σ h c Q :=
 XQ.cond hs hb (fun q => by cases q) (fun _ => hx)
theorem kQ {nt k : Nat} {code : Code} {σ : St} {h : Heap} {c : Nat} {Q : QP} (hx : Q .normal σ h c) (hs : isSkip code = true := by kernel_rfl) : XQ E0 nt k code σ h c Q := XQ.skip hs hx
theorem tQ {nt k : Nat} {code : Code} {σ : St} {h : Heap} {c : Nat} {Q : QP} (hx : Q .ret σ h c) (hs : isRet code = true := by kernel_rfl) : XQ E0 nt k code σ h c Q := XQ.ret hs hx
theorem cQ {nt k : Nat} {ops : Array Oper} {j : Nat} (live : List Nat) (dn : Nat) {K : Nat} {args : List Value} {σ : St} {h : Heap} {c : Nat} {Q : QP} {V : Value} {H : Heap} {C : Nat} (hx : KC E0 K args h c (fun v h' c' => v = V ∧ h' = H ∧ c' = C))
 (hn : XR E0 nt k ops (j + 1) (readS (putX (some (path 12 dn)) V (trS nt σ)) live) H C Q) (hl : live.all (fun i => Nat.blt i nt) = true := by rfl) (hc : callee ((gsOf E0 nt ops).drop j) (trS nt σ) = some (K, args, some (path 12 dn)) := by kernel_rfl) : XR E0 nt k ops j σ h c Q :=
 XR.call E0_ok live hl hc hx (by rintro _ _ _ ⟨rfl, rfl, rfl⟩; exact hn)
theorem kN (F : Func) (code : Code) (nt : Nat) (rs : List ResultVar) {K : Nat} {args : List Value} {h : Heap} {c : Nat} {R : Value → Heap → Nat → Prop}
 (hx : XQ E0 nt c code (argS args 0) h c (fun e σ h' c' => (∀ i, e ≠ .exit i) ∧ ∃ v, resOf E0 nt (trS nt σ) h' rs = some v ∧ R v h' c')) (hF : E0.fn K = some F := by kernel_rfl) (hb : F.body = some code := by kernel_rfl) (hnt : F.ntmps = nt := by kernel_rfl) (hrs : F.results.toList = rs := by kernel_rfl) (hn : (Nat.ble args.length nt && Nat.ble nt 4000) = true := by kernel_rfl) : KC E0 K args h c R :=
 KC.bodyN E0_ok hF hb hnt hrs hn rfl hx
theorem cK {nt k : Nat} {ops : Array Oper} {j : Nat} (live : List Nat) (K : Nat) (args : List Value) (dn : Nat) {σ : St} {h : Heap} {c : Nat} {Q : QP} (hx : KC E0 K args h c (fun v h' c' => XR E0 nt k ops (j + 1) (readS (putX (some (path 12 dn)) v (trS nt σ)) live) h' c' Q)) (hl : live.all (fun i => Nat.blt i nt) = true := by rfl)
 (hc : callee ((gsOf E0 nt ops).drop j) (trS nt σ) = some (K, args, some (path 12 dn)) := by kernel_rfl) : XR E0 nt k ops j σ h c Q := XR.callK E0_ok live hl hc hx
theorem sI {α : Type} {a b : α} (h : some a = some b) : a = b := Option.some.inj h
theorem cA {nt k : Nat} {ops : Array Oper} {j : Nat} (live : List Nat) (dn : Nat) {K : Nat} (args : List Value) {σ : St} {h : Heap} {c : Nat} {Q : QP} {V : Value} {H : Heap} {C : Nat} (hx : KC E0 K args h c (fun v h' c' => v = V ∧ h' = H ∧ c' = C))
 (hn : XR E0 nt k ops (j + 1) (readS (putX (some (path 12 dn)) V (trS nt σ)) live) H C Q) (hl : live.all (fun i => Nat.blt i nt) = true := by rfl) (hc : callee ((gsOf E0 nt ops).drop j) (trS nt σ) = some (K, args, some (path 12 dn)) := by kernel_rfl) : XR E0 nt k ops j σ h c Q :=
 XR.call E0_ok live hl hc hx (by rintro _ _ _ ⟨rfl, rfl, rfl⟩; exact hn)
noncomputable def honeS (E : Env) (nt : Nat) (ops : Array Oper) (t0 : Nat) (I : List Nat) (j : Nat) (listed : Array Bool) (σ : St) (h : Heap) : Option St :=
 (ops[j]?).bind fun o =>
  match (Region.ready .any ops listed).contains j && (Region.free .any ops listed j && (Region.noSelect ops && (!(Nat.beq j t0) && closedB .any ops listed))) with
  | false => none
  | true => match nilOf o with
   | some (x, d) => match lookS σ x with
    | some (.pointer (some p)) => match (d :: (σ.map Prod.fst).filter (fun i => !(Nat.beq i d))).all (fun i => Nat.blt i nt) with
     | true => some (readS (putX (some (path 12 d)) (.pointer (some p)) (trS nt σ)) (d :: (σ.map Prod.fst).filter (fun i => !(Nat.beq i d))))
     | false => none
    | _ => none
   | none => match loadOf o with
    | some (t, x, d) => match lookS σ x with
     | some (.pointer (some ⟨i, off, none⟩)) => match hget h i with
      | some (.cells cs _ _ _) => match (E.ty t).bind (fun D => loadV D cs off) with
       | some v => match I.contains i && (!cs.isEmpty && (waitsB .any ops t0 j && (d :: (σ.map Prod.fst).filter (fun i => !(Nat.beq i d))).all (fun i => Nat.blt i nt))) with
        | true => some (readS (putX (some (path 12 d)) v (trS nt σ)) (d :: (σ.map Prod.fst).filter (fun i => !(Nat.beq i d))))
        | false => none
       | none => none
      | _ => none
     | _ => none
    | none => match methOf o with
     | some (name, x, d) => match lookS σ x with
      | some u => match (d :: (σ.map Prod.fst).filter (fun i => !(Nat.beq i d))).all (fun i => Nat.blt i nt) with
       | true => some (readS (putX (some (path 12 d)) (.func (.method name) #[u] #[]) (trS nt σ)) (d :: (σ.map Prod.fst).filter (fun i => !(Nat.beq i d))))
       | false => none
      | none => none
     | none => match o.dst with
      | none => none
      | some d => match (d :: (σ.map Prod.fst).filter (fun i => !(Nat.beq i d))).all (fun i => Nat.blt i nt) && Nat.ble (reOps ops [j]).size (0 + 1) with
       | true => obsT (d :: (σ.map Prod.fst).filter (fun i => !(Nat.beq i d))) (pops ((((reOps ops [j]).toList.drop 0).take 1).map fun o => (isMove o, compG E nt (reOps ops [j]).toList o)) (trS nt σ))
       | false => none
theorem XH.one {E : Env} (hE : E.Ok) {nt k : Nat} {ops : Array Oper} {t0 : Nat} {T : List Nat} {g : Nat} {listed : Array Bool} {I : List Nat} (j : Nat) (hf : freeOf ops.toList = true) {σ σ' : St} {h : Heap} {c : Nat} {F : St → Heap → Nat → Prop}
 (hr : honeS E nt ops t0 I j listed σ h = some σ') (hx : XH E nt k ops t0 T g (listed.setIfInBounds j true) I σ' h c F) : XH E nt k ops t0 T (g + 1) listed I σ h c F := by
 unfold honeS at hr
 obtain ⟨o, hoj, hr⟩ := Option.bind_eq_some_iff.1 hr
 split at hr
 ·cases hr
 rename_i hrd
 split at hr
 ·rename_i x d hnil
  split at hr
  ·rename_i p hl
   split at hr
   ·rename_i ha
    cases hr
    refine XH.nil hE j hrd hf (x := x) (d := d) (p := p) _ (by rw [hoj]; exact hnil) hl ha ?_ rfl hx
    simp only [List.all_cons, Bool.and_eq_true] at ha
    exact ha.1
   ·cases hr
  ·cases hr
 ·split at hr
  ·rename_i t x d hld
   split at hr
   ·rename_i i off hl
    split at hr
    ·rename_i cs fz e es hg
     split at hr
     ·rename_i v hv
      split at hr
      ·rename_i ha
       cases hr
       simp only [Bool.and_eq_true, Bool.not_eq_true'] at ha hrd
       obtain ⟨a1, a2, a3, a4⟩ := ha
       obtain ⟨r1, r2, r3, r4, r5⟩ := hrd
       refine XH.load hE j (by simp only [Bool.and_eq_true, Bool.not_eq_true']; exact ⟨r1, r2, r3, ⟨r4, a3⟩, r5⟩) hf (t := t) (x := x) (d := d) (i := i) (off := off) _ (by rw [hoj]; exact hld) a1 hl hg a2 hv a4 ?_ rfl hx
       simp only [List.all_cons, Bool.and_eq_true] at a4
       exact a4.1
      ·cases hr
     ·cases hr
    ·cases hr
   ·cases hr
  ·split at hr
   ·rename_i name x d hm
    split at hr
    ·rename_i u hl
     split at hr
     ·rename_i ha
      cases hr
      refine XH.meth hE j hrd hf (x := x) (d := d) (name := name) (u := u) _ (by rw [hoj]; exact hm) hl ha ?_ rfl hx
      simp only [List.all_cons, Bool.and_eq_true] at ha
      exact ha.1
     ·cases hr
    ·cases hr
   ·split at hr
    ·cases hr
    ·split at hr
     ·rename_i d _ ha
      simp only [Bool.and_eq_true] at ha
      exact XH.pure hE j hrd hf (XP.step hE 1 _ ha.1 hr (XP.done ha.2 hx))
     ·cases hr
noncomputable def hrunS (E : Env) (nt : Nat) (ops : Array Oper) (t0 : Nat) (I : List Nat) (h : Heap) : List Nat → Array Bool → St → Option St
 | [], _, σ => some σ
 | j :: l, listed, σ => (honeS E nt ops t0 I j listed σ h).bind fun σ' => hrunS E nt ops t0 I h l (listed.setIfInBounds j true) σ'
theorem XH.weak {E : Env} {nt k : Nat} {ops : Array Oper} {t0 : Nat} {T : List Nat} {g : Nat} {listed : Array Bool} {I : List Nat} {σ σ' : St} {h : Heap} {c : Nat} {F : St → Heap → Nat → Prop} (hs : ∀ i v, (i, v) ∈ σ' → (i, v) ∈ σ) (hx : XH E nt k ops t0 T g listed I σ' h c F) : XH E nt k ops t0 T g listed I σ h c F :=
 fun B ρ a w h1 => hx B ρ a w ⟨h1.1, h1.2.1, fun i v hm => h1.2.2 i v (hs i v hm)⟩
theorem XH.runs {E : Env} (hE : E.Ok) {nt k : Nat} {ops : Array Oper} {t0 : Nat} {T : List Nat} {I : List Nat} (hf : freeOf ops.toList = true) {h : Heap} {c : Nat} {F : St → Heap → Nat → Prop} :
 ∀ (js : List Nat) {g : Nat} {listed : Array Bool} {σ σ' : St}, hrunS E nt ops t0 I h js listed σ = some σ' → XH E nt k ops t0 T g (js.foldl (fun l j => l.setIfInBounds j true) listed) I σ' h c F → XH E nt k ops t0 T (g + js.length) listed I σ h c F
 | [], _, _, _, _, hr, hx => by cases hr; exact hx
 | j :: l, g, listed, σ, σ', hr, hx => by
  obtain ⟨σ1, h1, h2⟩ := Option.bind_eq_some_iff.1 hr
  rw [show g + (j :: l).length = (g + l.length) + 1 by simp [Nat.add_assoc]]
  exact XH.one hE j hf h1 (XH.runs hE hf l h2 hx)
noncomputable def selS (σ : St) (live : List Nat) : St := live.filterMap fun i => (lookS σ i).map fun v => (i, v)
theorem hH {nt k : Nat} {ops : Array Oper} {t0 : Nat} {T : List Nat} {I : List Nat} (js : List Nat) (g : Nat) (σ' : St) {g0 : Nat} {listed : Array Bool} {σ : St} {h : Heap} {c : Nat} {F : St → Heap → Nat → Prop}
 (hx : XH E0 nt k ops t0 T g (js.foldl (fun l j => l.setIfInBounds j true) listed) I σ' h c F) (hg : Nat.beq (g + js.length) g0 = true := by kernel_rfl) (hf : freeOf ops.toList = true := by kernel_rfl)
 (hr : (hrunS E0 nt ops t0 I h js listed σ).map (fun s => selS s (σ'.map Prod.fst)) = some σ' := by kernel_rfl) : XH E0 nt k ops t0 T g0 listed I σ h c F := by
 cases Nat.eq_of_beq_eq_true hg
 obtain ⟨s, h1, h2⟩ := Option.map_eq_some_iff.1 hr
 refine XH.runs E0_ok hf js h1 (XH.weak (fun i v hm => ?_) hx)
 rw [← h2] at hm
 obtain ⟨i', _, hi⟩ := List.mem_filterMap.1 hm
 obtain ⟨v', hv, e⟩ := Option.map_eq_some_iff.1 hi
 cases e
 exact lookS_mem hv
theorem fH {nt k k' : Nat} {h0 : Heap} {ops : Array Oper} {t0 : Nat} {T : List Nat} {listed : Array Bool} {I : List Nat} {σ : St} {h : Heap} {c : Nat} {Q : QP}
 (hx : XR E0 nt k (reOps ops (t0 :: T)) 0 σ (thaw I h0 h) c Q) (hs : (seqP .any ops (t0 :: T) listed && Nat.blt t0 listed.size) = true := by kernel_rfl) (hq : (liveB I h && I.all (fun i => (hget h i).isSome)) = true := by kernel_rfl) :
 XH E0 nt k' ops t0 T 0 listed I σ h c (fun σ' h' c' => (liveB I h' && I.all (fun i => (hget h' i).isSome)) = true ∧ XR E0 nt k (reOps ops (t0 :: T)) 0 σ' (thaw I h0 h') c' Q) := XH.fin hs ⟨hq, hx⟩
theorem uH {nt k : Nat} {ops : Array Oper} {t0 : Nat} {T : List Nat} {g : Nat} {listed : Array Bool} {I : List Nat} (js : List Nat) {σ : St} {h : Heap} {c : Nat} {F : St → Heap → Nat → Prop}
 (hx : AllJ js fun j => XR E0 nt k (reOps ops [j]) 0 σ h c (fun e σ' h' c' => e = .normal ∧ XH E0 nt k ops t0 T g (listed.setIfInBounds j true) I σ' h' c' F)) (hr : Region.ready .any ops listed = js := by kernel_rfl) (hn : js.isEmpty = false := by rfl) (hf : freeOf ops.toList = true := by kernel_rfl) : XH E0 nt k ops t0 T (g + 1) listed I σ h c F := XH.step E0_ok js hr hn hf hx
theorem zH {nt nt' k k' j : Nat} {ops ops' : Array Oper} {t0 : Nat} {T : List Nat} {g : Nat} {listed : Array Bool} {I : List Nat} {σ : St} {h : Heap} {c : Nat} {F : St → Heap → Nat → Prop} (hx : XH E0 nt' k' ops' t0 T g listed I σ h c F) (hj : Nat.ble ops.size j = true := by kernel_rfl) :
 XR E0 nt k ops j σ h c (fun e σ' h' c' => e = .normal ∧ XH E0 nt' k' ops' t0 T g listed I σ' h' c' F) := XR.done hj ⟨rfl, hx⟩
theorem hQ {nt k : Nat} {code : Code} (t0 : Nat) (T : List Nat) (g : Nat) (I : List Nat) (hF : Heap) {σ : St} {h : Heap} {c : Nat} {Q : QP}
 (hx : XH E0 nt c (opsOf code) t0 T g (Array.replicate (opsOf code).size false) I σ hF c (fun σ' h' c' => (liveB I h' && I.all (fun i => (hget h' i).isSome)) = true ∧ XR E0 nt k (reOps (opsOf code) (t0 :: T)) 0 σ' (thaw I h h') c' Q)) (hs : drawOf code = some true := by kernel_rfl)
 (hn : ((T.all fun i => Nat.blt i (opsOf code).size) && (Nat.blt t0 (opsOf code).size && (Nat.beq (g + (T.length + 1)) (opsOf code).size && (I.all (fun i => Nat.blt i c) && (liveB I h && cellsI I h))))) = true := by kernel_rfl) (hf : freeOf (opsOf code).toList = true := by kernel_rfl) (hFe : frzI I h = hF := by kernel_rfl) : XQ E0 nt k code σ h c Q :=
 XQ.held E0_ok hs t0 T g I hn hf hFe hx
theorem XR.ren {E : Env} {nt k : Nat} {ops : Array Oper} {j : Nat} (s : List Nat) (hn : s.Nodup) (hk : s.take k = List.range k) {σ σ' : St} {h h' : Heap} {c c' : Nat} {Q : QP} (hσ : SubS s σ σ') (hh : RenH s h h') (hc : s.length = c')
 (hx : XR E nt k ops j σ' h' c' Q) : XR E nt k ops j σ h c Q := by
 intro B ρ a w h1 h2 h3 h4 h5 h6 ρ0 w0 ds h7 h8 h9
 exact hx B (renR s ρ) a w (h1.ren hσ) (h2.ren hn hh) (by simpa [renR] using hc) h4 h5 h6 ρ0 w0 ds (h7.trans (Keeps.ren h7.le hk)) h8 h9
theorem nR {nt k : Nat} {code : Code} (σ' : St) (h' : Heap) (c' : Nat) (s : List Nat) {σ : St} {h : Heap} {c : Nat} {Q : QP} (hx : XQ E0 nt k code σ' h' c' Q)
 (hσ : SubS s σ σ' := by repeat first | exact trivial | refine ⟨by kernel_rfl, ?_⟩)
 (hh : RenH s h h' := by repeat first | exact trivial | refine ⟨⟨_, _, rfl, rfl, by first | exact .inr ⟨_, _, _, _, rfl, rfl⟩ | exact .inl ⟨rfl, trivial⟩ | exact .inl ⟨rfl, rowC_scal encS_ok _⟩ | exact .inl ⟨rfl, rowC_scal encSt_ok _⟩ | exact .inl ⟨rfl, rowC_scal encF_ok _⟩ | exact .inl ⟨rfl, rowC_scal (encI_ok _) _⟩ | exact .inl ⟨rfl, rowC_scal encL_ok _⟩ | exact .inl ⟨rfl, rowC_scal encD_ok _⟩⟩, ?_⟩)
 (hn : s.Nodup := by decide) (hk : s.take k = List.range k := by rfl) (hc : s.length = c' := by rfl) : XQ E0 nt k code σ h c Q := XQ.ren s hn hk hσ hh hc hx
theorem nL {nt k n : Nat} {code : Code} (σ' : St) (h' : Heap) (c' : Nat) (s : List Nat) {σ : St} {h : Heap} {c : Nat} {Q : QP} (hx : XL E0 nt k n code σ' h' c' Q)
 (hσ : SubS s σ σ' := by repeat first | exact trivial | refine ⟨by kernel_rfl, ?_⟩)
 (hh : RenH s h h' := by repeat first | exact trivial | refine ⟨⟨_, _, rfl, rfl, by first | exact .inr ⟨_, _, _, _, rfl, rfl⟩ | exact .inl ⟨rfl, trivial⟩ | exact .inl ⟨rfl, rowC_scal encS_ok _⟩ | exact .inl ⟨rfl, rowC_scal encSt_ok _⟩ | exact .inl ⟨rfl, rowC_scal encF_ok _⟩ | exact .inl ⟨rfl, rowC_scal (encI_ok _) _⟩ | exact .inl ⟨rfl, rowC_scal encL_ok _⟩ | exact .inl ⟨rfl, rowC_scal encD_ok _⟩⟩, ?_⟩)
 (hn : s.Nodup := by decide) (hk : s.take k = List.range k := by rfl) (hc : s.length = c' := by rfl) : XL E0 nt k n code σ h c Q := XL.ren s hn hk hσ hh hc hx
theorem rE {nt k : Nat} {ops : Array Oper} {j : Nat} (m : Nat) (σ' : St) {code : Code} {σ : St} {h : Heap} {c : Nat} {Q Q' : QP} (e : XQ E0 nt k code σ' h c Q' → Q .normal σ' h c) (hx : XQ E0 nt k code σ' h c Q') (hj : Nat.ble ops.size (j + m) = true := by kernel_rfl) (hl : (σ'.map Prod.fst).all (fun i => Nat.blt i nt) = true := by rfl)
 (hr : obsO (σ'.map Prod.fst) (xops (callF E0 (exec E0 1)) (((gsOf E0 nt ops).drop j).take m) (trS nt σ) h c) = some (σ', h, c) := by kernel_rfl) : XR E0 nt k ops j σ h c Q := rS m σ' (eQ e hx hj) hl hr
theorem rG {nt k : Nat} {ops : Array Oper} {j : Nat} (m : Nat) (σ' : St) (D : Heap → Heap) (c' : Nat) {code : Code} {σ : St} {h : Heap} {c : Nat} {Q Q' : QP} (e : XQ E0 nt k code σ' (D h) c' Q' → Q .normal σ' (D h) c') (hx : XQ E0 nt k code σ' (D h) c' Q') (hj : Nat.ble ops.size (j + m) = true := by kernel_rfl) (hl : (σ'.map Prod.fst).all (fun i => Nat.blt i nt) = true := by rfl)
 (hr : obsO (σ'.map Prod.fst) (xops (callF E0 (exec E0 1)) (((gsOf E0 nt ops).drop j).take m) (trS nt σ) h c) = some (σ', D h, c') := by kernel_rfl) : XR E0 nt k ops j σ h c Q := rD m σ' D c' (eQ e hx hj) hl hr
theorem qE {nt k : Nat} {code0 : Code} (m : Nat) (σ' : St) {code : Code} {σ : St} {h : Heap} {c : Nat} {Q Q' : QP} (e : XQ E0 nt k code σ' h c Q' → (Then (fun σ h c => XQ E0 nt k (rgt code0) σ h c Q) Q) .normal σ' h c) (hx : XQ E0 nt k code σ' h c Q') (hs : isSeq code0 = true := by kernel_rfl) (hd : drawOf (lft code0) = some false := by kernel_rfl) (hj : Nat.ble (opsOf (lft code0)).size (0 + m) = true := by kernel_rfl) (hl : (σ'.map Prod.fst).all (fun i => Nat.blt i nt) = true := by rfl)
 (hr : obsO (σ'.map Prod.fst) (xops (callF E0 (exec E0 1)) (((gsOf E0 nt (opsOf (lft code0))).drop 0).take m) (trS nt σ) h c) = some (σ', h, c) := by kernel_rfl) : XQ E0 nt k code0 σ h c Q := qQ (rS m σ' (eQ e hx hj) hl hr) hs hd
theorem qG {nt k : Nat} {code0 : Code} (m : Nat) (σ' : St) (D : Heap → Heap) (c' : Nat) {code : Code} {σ : St} {h : Heap} {c : Nat} {Q Q' : QP} (e : XQ E0 nt k code σ' (D h) c' Q' → (Then (fun σ h c => XQ E0 nt k (rgt code0) σ h c Q) Q) .normal σ' (D h) c') (hx : XQ E0 nt k code σ' (D h) c' Q') (hs : isSeq code0 = true := by kernel_rfl) (hd : drawOf (lft code0) = some false := by kernel_rfl) (hj : Nat.ble (opsOf (lft code0)).size (0 + m) = true := by kernel_rfl) (hl : (σ'.map Prod.fst).all (fun i => Nat.blt i nt) = true := by rfl)
 (hr : obsO (σ'.map Prod.fst) (xops (callF E0 (exec E0 1)) (((gsOf E0 nt (opsOf (lft code0))).drop 0).take m) (trS nt σ) h c) = some (σ', D h, c') := by kernel_rfl) : XQ E0 nt k code0 σ h c Q := qQ (rD m σ' D c' (eQ e hx hj) hl hr) hs hd
theorem tV {nt k : Nat} {code : Code} {nt' : Nat} {rs : List ResultVar} (v : Value) {σ : St} {h : Heap} {c : Nat} {Q : QP} {P : Value → Prop} (e : ((∀ i, Ex.ret ≠ Ex.exit i) ∧ ∃ v, resOf E0 nt' (trS nt' σ) h rs = some v ∧ P v) → Q .ret σ h c) (hx : P v) (hs : isRet code = true := by kernel_rfl) (hv : resOf E0 nt' (trS nt' σ) h rs = some v := by kernel_rfl) : XQ E0 nt k code σ h c Q :=
 XQ.ret hs (e ⟨fun i q => (by cases q), v, hv, hx⟩)
theorem iK {nt k : Nat} {code : Code} (s : Nat) {code' : Code} {σ : St} {h : Heap} {c : Nat} {Q Q' : QP} (e : XQ E0 nt k code' σ h c Q' → Q .normal σ h c) (hx : XQ E0 nt k code' σ h c Q') (hs : condOf code = some (.tmp s) := by kernel_rfl) (hb : ev (trS nt σ) (src nt (.tmp s)) = .bool false := by kernel_rfl) (hk : isSkip (rgt code) = true := by kernel_rfl) : XQ E0 nt k code σ h c Q := iF s (kQ (e hx) hk) hs hb
theorem rR {nt k : Nat} {ops : Array Oper} {j : Nat} (v : Value) {σ : St} {h : Heap} {c : Nat} {Q : QP} (hv : insV (headI ((gsOf E0 nt ops).drop j) (trS nt σ)) (trS nt σ) h = some v) (σ' : St) (hx : XR E0 nt k ops (j + 1) σ' h c Q)
 (hl : (σ'.map Prod.fst).all (fun i => Nat.blt i nt) = true := by rfl) (hσ : readS (putX (insD (headI ((gsOf E0 nt ops).drop j) (trS nt σ))) v (trS nt σ)) (σ'.map Prod.fst) = σ' := by kernel_rfl) : XR E0 nt k ops j σ h c Q := XR.rd E0_ok _ hl hv hσ hx
theorem mR {c : Bool} {v : Value} {x : Option Value} (hc : c = true) (h : x = cond c (some v) none := by kernel_rfl) : x = some v := by subst hc; exact h
theorem rl {α : Type} {i : Int} {m n : Nat} {xs : List α} (h : inRow i m = true) (e : m = xs.length := by simp) (hn : i.toNat = n := by rfl) : n < xs.length := by
 subst hn; exact row_len (inRow_toNat h) e
theorem iV {g : Ins} {nt : Nat} {σ : St} {h : Heap} {i : Int} {len b off : Nat} (x : Nat) (y : Operand) (d s o : Nat) (hc : inRow i len = true) (hI : g = .rd (some (path 12 d)) (rIdxS s (src nt (.tmp x)) (src nt y)) := by kernel_rfl)
 (hx : ev (trS nt σ) (src nt (.tmp x)) = .slice (some ⟨b, o, none⟩) len len := by kernel_rfl) (hy : ev (trS nt σ) (src nt y) = .int .i64 i := by kernel_rfl) (ho : o + i.toNat * s = off := by first | omega | exact Nat.zero_add _) : insV g (trS nt σ) h = some (.pointer (some ⟨b, off, none⟩)) := v_idx hI hx hy hc ho
theorem lV {α : Type} {f : α → List Value} {s : Nat} (hf : Enc f s) {g : Ins} {nt : Nat} {σ : St} {h : Heap} {v : Value} (x d b off : Nat) (xs : List α) (fz : Nat) (e : TypeId) (es n k : Nat) (d0 : α) (hn : n < xs.length) (hI : g = .rd (some (path 12 d)) (rLoad1 (src nt (.tmp x))) := by kernel_rfl)
 (hx : ev (trS nt σ) (src nt (.tmp x)) = .pointer (some ⟨b, off, none⟩) := by kernel_rfl) (hg : hget h b = some (.cells (rowC f xs) fz e es) := by kernel_rfl) (ho : off = n * s + k := by first | with_reducible rfl | omega | rfl) (hk : Nat.blt k s = true := by rfl) (hv : (f (xs.getD n d0))[k]? = some v := by rfl) : insV g (trS nt σ) h = some v :=
 v_load1 hf hI hx hg n k d0 ho hn hk hv
theorem LV {α : Type} {f : α → List Value} {s : Nat} (hf : Enc f s) {g : Ins} {nt : Nat} {σ : St} {h : Heap} {v : Value} (x d b off : Nat) (xs : List α) (fz : Nat) (e : TypeId) (es n : Nat) (d0 : α) (hn : n < xs.length) (hI : g = .rd (some (path 12 d)) (rLoadN s (src nt (.tmp x))) := by kernel_rfl)
 (hx : ev (trS nt σ) (src nt (.tmp x)) = .pointer (some ⟨b, off, none⟩) := by kernel_rfl) (hg : hget h b = some (.cells (rowC f xs) fz e es) := by kernel_rfl) (ho : off = n * s := by first | with_reducible rfl | omega | rfl) (hv : Value.agg (f (xs.getD n d0)).toArray = v := by rfl) : insV g (trS nt σ) h = some v :=
 v_loadN hf hI hx hg n d0 ho hn hv
theorem sR {nt k : Nat} {ops : Array Oper} {m j : Nat} (v : Value) {σ : St} {h : Heap} {c : Nat} {Q : QP} (hv : insV (headI ((gsOf E0 nt ops).drop j) (trS nt σ)) (trS nt σ) h = some v) (σ' : St) (hx : XS E0 nt k ops m (j + 1) σ' h c Q)
 (hi : Nat.ble (j + 1) m = true := by rfl) (hl : (σ'.map Prod.fst).all (fun i => Nat.blt i nt) = true := by rfl) (hσ : readS (putX (insD (headI ((gsOf E0 nt ops).drop j) (trS nt σ))) v (trS nt σ)) (σ'.map Prod.fst) = σ' := by kernel_rfl) : XS E0 nt k ops m j σ h c Q := XS.rd E0_ok hi _ hl hv hσ hx
theorem uR {nt : Nat} {ops : Array Oper} {j : Nat} (v : Value) {σ : St} {h : Heap} {c : Nat} {Q : St → Prop} (hv : insV (headI ((gsOf E0 nt ops).drop j) (trS nt σ)) (trS nt σ) h = some v) (σ' : St) (hx : XU E0 nt ops (j + 1) σ' h c Q)
 (hl : (σ'.map Prod.fst).all (fun i => Nat.blt i nt) = true := by rfl) (hσ : readS (putX (insD (headI ((gsOf E0 nt ops).drop j) (trS nt σ))) v (trS nt σ)) (σ'.map Prod.fst) = σ' := by kernel_rfl) : XU E0 nt ops j σ h c Q := XU.rd E0_ok _ hl hv hσ hx
theorem eR {nt k : Nat} {ops : Array Oper} {j : Nat} {v : Value} {h' : Heap} {c' : Nat} {σ : St} {h : Heap} {c : Nat} {Q : QP} (hv : insE (headI ((gsOf E0 nt ops).drop j) (trS nt σ)) (trS nt σ) h c = some (v, h', c')) (σ' : St) (hx : XR E0 nt k ops (j + 1) σ' h' c' Q)
 (hl : (σ'.map Prod.fst).all (fun i => Nat.blt i nt) = true := by rfl) (hσ : readS (putX (insD (headI ((gsOf E0 nt ops).drop j) (trS nt σ))) v (trS nt σ)) (σ'.map Prod.fst) = σ' := by kernel_rfl) : XR E0 nt k ops j σ h c Q := XR.ef E0_ok _ hl hv hσ hx
open Go.RowKit Go.ChangeMaps Go.MapKept
theorem wpList_range_raw {P : Program} (w : World) {ops : Array Oper} {rest : List Oper} {o : Oper} {a : Act} {Q : Exit → Act → World → Prop} (hg : o.guard = none) (m : Operand) (t : TypeId) (hop : o.op = Op.range t m) (k e : TypeId) (ht : P.underlying t = some (.map k e)) (b : Nat) {E : Array MapEntry} {clock : Nat}
 (hm : a.eval m = .map (some b)) (hb : w.heap[b]? = some (.map E clock))
 (hK : wpList P ops Q rest (a.put o.dst (.pointer (some ⟨w.heap.size, 0, none⟩))) (w.alloc (.mapIter (some b) clock #[] clock))) : wpList P ops Q (o :: rest) a w := by
 refine wpList_plain hg fun K' hK' => ?_
 have hrun : (Instr.range t (.map (some b))).run P w = .ok (.pointer (some ⟨w.heap.size, 0, none⟩)) (w.alloc (.mapIter (some b) clock #[] clock)) := by
  simp [Instr.range, run_underlying ht, MapKept.run_getObj_map hb, Result.andThen, go_sem]
 unfold Oper.wp
 simp [execOp, hop, hm, hrun, Result.andThen]
 exact hK' _ _ hK
theorem wpList_next_raw {P : Program} (w : World) {ops : Array Oper} {rest : List Oper} {o : Oper} {a : Act} {Q : Exit → Act → World → Prop} (hg : o.guard = none) (it : Operand) (hop : o.op = Op.next it false) (r b since c0 : Nat) (seen : Array Nat) {E : Array MapEntry} {clock : Nat}
 (hit : a.eval it = .pointer (some ⟨r, 0, none⟩)) (hr : w.heap[r]? = some (.mapIter (some b) since seen c0)) (hb : w.heap[b]? = some (.map E clock)) (hold : ∀ x ∈ E.toList, x.born < since) (hsc : since ≤ c0)
 (hDone : (leftOf E seen).size = 0 → wpList P ops Q rest (a.put o.dst (.tuple #[.bool false])) w)
 (hMore : ∀ (e : MapEntry) (W : World), e ∈ E.toList → seen.contains e.born = false → W.heap[b]? = some (.map E clock) → W.heap[r]? = some (.mapIter (some b) since (seen.push e.born) clock) → w.grownBy W (some r) → W.heap.size = w.heap.size →
  wpList P ops Q rest (a.put o.dst (.tuple #[.bool true, e.key, e.val])) W) : wpList P ops Q (o :: rest) a w := by
 refine wpList_plain hg fun K' hK' => ?_
 unfold Oper.wp
 rcases run_next_at (P := P) w o.type r b since c0 seen E clock hr hb hold hsc with ⟨h0, hrun⟩ | ⟨e, he, w1, hw1, hrun⟩
 ·simp [execOp, hop, hit, hrun, Result.andThen]
  exact hK' _ _ (hDone h0)
 ·simp [execOp, hop, hit, hrun, Result.andThen]
  have hwh : w1.heap = w.heap := by rcases hw1 with rfl | rfl <;> rfl
  have hrs : r < w.heap.size := (Array.getElem?_eq_some_iff.1 hr).1
  have hbr : b ≠ r := fun q => by rw [q, hr] at hb; cases hb
  have hmem : e ∈ E.toList ∧ seen.contains e.born = false := by
   unfold leftOf at he
   simpa using he
  refine hK' _ _ (hMore e (setBlock w1 r (.mapIter (some b) since (seen.push e.born) clock)) hmem.1 hmem.2 ?_ ?_ ⟨?_, ?_, ?_, ?_, ?_⟩ ?_)
  ·show (w1.heap.setIfInBounds r _)[b]? = _
   rw [hwh, Array.getElem?_setIfInBounds, if_neg (Ne.symm hbr), hb]
  ·show (w1.heap.setIfInBounds r _)[r]? = _
   rw [hwh, Array.getElem?_setIfInBounds, if_pos rfl, if_pos hrs]
  ·rcases hw1 with rfl | rfl <;> rfl
  ·rcases hw1 with rfl | rfl <;> rfl
  ·rcases hw1 with rfl | rfl <;> rfl
  ·show w.heap.size ≤ (w1.heap.setIfInBounds r _).size
   rw [hwh, Array.size_setIfInBounds]
   exact Nat.le_refl _
  ·intro i hi hne
   show (w1.heap.setIfInBounds r _)[i]? = _
   rw [hwh, Array.getElem?_setIfInBounds, if_neg (fun q => hne (by rw [q]))]
  ·show (w1.heap.setIfInBounds r _).size = _
   rw [hwh, Array.size_setIfInBounds]
def bayE (e : MapEntry) : Int := match e.val with
 | Value.agg cs => match cs[1]? with
  | some (Value.int _ b) => b
  | _ => 0
 | _ => 0
theorem born_inj {l : List MapEntry} (h : (l.map (·.born)).Nodup) : ∀ {a b : MapEntry}, a ∈ l → b ∈ l → a.born = b.born → a = b := by
 induction l with
 | nil => intro a b ha; cases ha
 | cons x l ih =>
  intro a b ha hb he
  rw [List.map_cons, List.nodup_cons] at h
  rcases List.mem_cons.1 ha with ea | ha
  ·rcases List.mem_cons.1 hb with eb | hb
   ·rw [ea, eb]
   ·rw [ea] at he
    exact absurd (List.mem_map.2 ⟨b, hb, he.symm⟩) h.1
  ·rcases List.mem_cons.1 hb with eb | hb
   ·rw [eb] at he
    exact absurd (List.mem_map.2 ⟨a, ha, he⟩) h.1
   ·exact ih h.2 ha hb he
theorem nodup_len : ∀ {l m : List Nat}, l.Nodup → (∀ x, x ∈ l → x ∈ m) → l.length ≤ m.length
 | [], _, _, _ => Nat.zero_le _
 | x :: l, m, h, hs => by
  obtain ⟨h1, h2⟩ := List.nodup_cons.1 h
  have hx := hs x (List.mem_cons_self ..)
  have := nodup_len (m := m.erase x) h2 (fun y hy => (List.mem_erase_of_ne (fun e : y = x => h1 (by rw [← e]; exact hy))).2 (hs y (List.mem_cons_of_mem _ hy)))
  rw [List.length_erase_of_mem hx] at this
  have : 0 < m.length := List.length_pos_of_mem hx
  rw [List.length_cons]
  omega
theorem nodup_of_born {l : List MapEntry} (h : (l.map (·.born)).Nodup) : l.Nodup := by
 induction l with
 | nil => exact List.nodup_nil
 | cons x l ih =>
  rw [List.map_cons, List.nodup_cons] at h
  exact List.nodup_cons.2 ⟨fun q => h.1 (List.mem_map.2 ⟨x, q, rfl⟩), ih h.2⟩
theorem vis_perm {E : Array MapEntry} {seen : Array Nat} {vis : List MapEntry} (hs : (E.toList.map (·.born)).Nodup) (h0 : leftOf E seen = #[]) (h1 : ∀ e, e ∈ vis → e ∈ E.toList) (h2 : seen.toList = vis.map (·.born)) (h3 : (vis.map (·.born)).Nodup) : vis.Perm E.toList := by
 refine (List.perm_ext_iff_of_nodup (nodup_of_born h3) (nodup_of_born hs)).2 fun a => ⟨h1 a, fun ha => ?_⟩
 have hc : seen.contains a.born = true := by
  cases hb : seen.contains a.born with
  | true => rfl
  | false =>
   have : a ∈ leftOf E seen := by
    unfold leftOf
    simp only [Array.mem_filter, Bool.not_eq_true']
    exact ⟨by simpa using ha, hb⟩
   rw [h0] at this
   cases this
   rename_i q
   cases q
 have hm : a.born ∈ seen.toList := by simpa using hc
 rw [h2] at hm
 obtain ⟨v, v1, v2⟩ := List.mem_map.1 hm
 have := born_inj hs (h1 v v1) ha v2
 rwa [← this]
theorem filter_le {α : Type} {p q : α → Bool} (h : ∀ x, p x = true → q x = true) : ∀ l : List α, (l.filter p).length ≤ (l.filter q).length
 | [] => Nat.le_refl _
 | x :: l => by
  have ih := filter_le h l
  rw [List.filter_cons, List.filter_cons]
  cases hp : p x with
  | true => rw [h x hp]; simpa using ih
  | false => cases q x <;> simp <;> omega
theorem filter_lt {α : Type} {p q : α → Bool} (h : ∀ x, p x = true → q x = true) {e : α} (hp : p e = false) (hq : q e = true) : ∀ l : List α, e ∈ l → (l.filter p).length < (l.filter q).length
 | [], hm => by cases hm
 | x :: l, hm => by
  rw [List.filter_cons, List.filter_cons]
  rcases List.mem_cons.1 hm with rfl | hm
  ·have := filter_le h l
   rw [hp, hq]
   simp
   omega
  ·have ih := filter_lt h hp hq l hm
   cases hpx : p x with
   | true => rw [h x hpx]; simpa using ih
   | false => cases q x <;> simp <;> omega
theorem left_lt {E : Array MapEntry} {seen : Array Nat} {e : MapEntry} (he : e ∈ E.toList) (hn : seen.contains e.born = false) : (leftOf E (seen.push e.born)).size < (leftOf E seen).size := by
 have h1 : ∀ s : Array Nat, (leftOf E s).size = (E.toList.filter fun x => !s.contains x.born).length := fun s => by
  unfold leftOf
  rw [← Array.length_toList, Array.toList_filter]
 rw [h1, h1]
 refine filter_lt (fun x hx => ?_) ?_ ?_ _ he
 ·simp only [Bool.not_eq_true', Array.contains_push] at hx ⊢
  simp at hx ⊢
  exact hx.1
 ·simp
 ·rw [hn]; rfl
theorem cell_lt' {w : World} {a : Addr} {v : Value} (hm : w.cell? a = some v) : a.block < w.heap.size := by
 unfold World.cell? at hm
 split at hm
 ·rename_i h1
  exact (Array.getElem?_eq_some_iff.1 h1).1
 ·cases hm
set_option maxHeartbeats 2000000 in
set_option maxRecDepth 100000 in
theorem free_raw (w : World) (b mb : Nat) (E : Array MapEntry) (clock : Nat) (bays wish r1 r2 : Int) (w0 : World)
 (h0 : w.cell? ⟨b, 0, none⟩ = some (.int .i64 bays)) (h1 : w.cell? ⟨b, 1, none⟩ = some (.map (some mb))) (hm : w.heap[mb]? = some (.map E clock)) (hs : Stm E clock)
 (hE : ∀ e ∈ E.toList, ∃ n k, e.val = .agg #[.string n, .int .i64 (bayE e), .int .i64 k]) (hn : E.size ≤ 1000)
 (nx : ∀ (w' : World) (v : Value) (zs : List Int), Below w.heap.size w w' → w'.ownsRow (w.heap.size + 1) 3 1 v zs.length (zs.map (Value.int .i64)) → zs.Perm (E.toList.map bayE) →
  Calls Proofs.Tryz.prog 245 #[.int .i64 bays, v, .int .i64 wish] w' fun e w'' => e = .returned (.tuple #[.int .i64 r1, .int .i64 r2]) ∧ Below w'.heap.size w' w'') :
 Calls Proofs.Tryz.prog 244 #[.pointer (some ⟨b, 0, none⟩), .int .i64 wish] w fun e w' => e = .returned (.tuple #[.int .i64 r1, .int .i64 r2]) ∧ Below w.heap.size w w' := by
 refine calls_of_wp Proofs.Tryz.func244 rfl ?_
 simp only [Proofs.Tryz.ntmps244, List.size_toArray, List.length_cons, List.length_nil, Nat.reduceAdd, Nat.reduceSub, Array.replicate_succ, Array.replicate_zero, List.push_toArray, List.append_toArray, List.nil_append, List.cons_append]
 go_wp2_with (first
  | (at_range; refine wpList_range_raw _ rfl _ _ rfl 9 74 Proofs.Tryz.underlying45 mb rfl hm ?_)
  | go_in)
 go_frame
 go_loopw [6] (fun v6 wr => ∃ (vis : List MapEntry) (seen : Array Nat), wr.heap[mb]? = some (.map E clock) ∧ wr.heap[w.heap.size]? = some (.mapIter (some mb) clock seen clock) ∧ (∀ e, e ∈ vis → e ∈ E.toList) ∧ seen.toList = vis.map (·.born) ∧ (vis.map (·.born)).Nodup ∧ wr.ownsRow (w.heap.size + 1) 3 1 v6 vis.length (vis.map (fun e => .int .i64 (bayE e))) ∧ Below w.heap.size w wr)
  (fun _ wr => match wr.heap[w.heap.size]? with | some (.mapIter _ _ seen _) => (leftOf E seen).size | _ => 0)
 case atStart =>
  have hb : b < w.heap.size := cell_lt' h0
  have hmb : mb < w.heap.size := (Array.getElem?_eq_some_iff.1 hm).1
  refine ⟨[], #[], ?_, ?_, ?_, rfl, List.nodup_nil, World.ownsRow_nil _ _ _ _, (Below.refl _ w).alloc (Nat.le_refl _) _⟩
  ·rw [heap_old w _ hmb]; exact hm
  ·exact heap_new w _
  ·intro e he; cases he
 case round =>
  obtain ⟨vis, seen, g1, g2, g3, g4, g5, g6, g7⟩ := hrel
  have hb : b < w.heap.size := cell_lt' h0
  have h0' : wr.cell? ⟨b, 0, none⟩ = some (.int .i64 bays) := by rw [← h0]; exact World.cell?_of_block (w := w) (g7.block b hb)
  have hmb : mb < w.heap.size := (Array.getElem?_eq_some_iff.1 hm).1
  have hlen : vis.length ≤ 1000 := by
   have hv := nodup_len (m := E.toList.map (·.born)) g5 (fun x hx => by
    obtain ⟨v, v1, v2⟩ := List.mem_map.1 hx
    exact List.mem_map.2 ⟨v, g3 v v1, v2⟩)
   rw [List.length_map, List.length_map] at hv
   have hv2 : E.toList.length = E.size := Array.length_toList
   omega
  go_wp2_with (first
   | (at_next; refine wpList_next_raw _ rfl _ rfl w.heap.size mb clock clock seen rfl g2 g1 hs.1 (Nat.le_refl _) ?_ ?_)
   | go_in)
  ·intro hc0
   have hc0 : leftOf E seen = #[] := Array.eq_empty_of_size_eq_zero (by simpa using hc0)
   have hp := vis_perm hs.2 hc0 g3 g4 g5
   have hnx := nx wr u6 (vis.map bayE) g7 (by rw [List.map_map, List.length_map]; exact g6) (hp.map bayE)
   go_wp2_with (go_at_call 245; refine hnx.mono ?_; rintro e w' ⟨rfl, hbe⟩)
   go_ret2
   exact ⟨rfl, g7.trans (hbe.mono g7.size)⟩
  ·intro e W he hne k1 k2 k3 k4
   have he' : e ∈ E.toList := by simpa using he
   obtain ⟨n, k, hev⟩ := hE e he'
   have hen := run_entry_at (P := Proofs.Tryz.prog) W w.heap.size mb clock seen E clock e k2 k1 he' hs.2
   rw [hev] at hen
   have hob : u6.ownBlock = none ∨ u6.ownBlock ≠ some w.heap.size := by
    rcases g6.2 with ⟨q, _⟩ | ⟨g, cap, cur, q, q1, _⟩
    ·rw [q]; exact .inl rfl
    ·rw [q]; refine .inr fun z => ?_
     have z1 : g = w.heap.size := Option.some.inj z
     omega
   have hown := ((g6.kept k3 hob).alloc (.cells #[.string n, .int .i64 (bayE e), .int .i64 k] 74)).alloc (.cells #[.int .i64 (bayE e)] 3)
   obtain ⟨i0, hi, hz0, hz1, hz2⟩ := info_parts (P := Proofs.Tryz.prog) (e := 3) (z := .int .i64 0) (size := 1) (bytes := 8) (by kernel_rfl)
   have hnews : ∀ (j : Nat) (u : Value), [Value.int .i64 (bayE e)][j]? = some u → ((W.alloc (.cells #[.string n, .int .i64 (bayE e), .int .i64 k] 74)).alloc (.cells #[.int .i64 (bayE e)] 3)).cell? ((⟨wr.heap.size + 1, 0, none⟩ : Addr).add j) = some u := by
    intro j u hj
    have q := cell_one_new (W.alloc (.cells #[.string n, .int .i64 (bayE e), .int .i64 k] 74)) (.int .i64 (bayE e)) 3 j u hj
    have z : (W.alloc (.cells #[.string n, .int .i64 (bayE e), .int .i64 k] 74)).heap.size = wr.heap.size + 1 := by
     show (W.heap.push _).size = _
     rw [Array.size_push, k4]
    rw [z] at q
    exact q
   go_wp2_with (first
    | (at_builtin; refine wpList_append_own _ rfl _ _ 61 rfl (w.heap.size + 1) 3 i0 (.int .i64 0) 1 8 Proofs.Tryz.underlying61 hi hz0 hz1 hz2 rfl (by decide) _ _ _ rfl hown ⟨wr.heap.size + 1, 0, none⟩ 1 1 [.int .i64 (bayE e)] rfl rfl hnews (fun x hx => by simp at hx; subst hx; rfl) (by unfold maxLen; omega) (by omega) ?_ ?_)
    | go_in)
   ·have q := g7.size
    show w.heap.size + 1 ≤ ((W.heap.push _).push _).size
    rw [Array.size_push, Array.size_push, k4]
    omega
   ·intro v' w3 hown' hgrow3 hnil3
    go_wp2
    have q := g7.size
    have hcar : ∀ j o, j ≤ w.heap.size → W.heap[j]? = some o → w3.heap[j]? = some o := by
     intro j o hj ho
     have hjW : j < W.heap.size := (Array.getElem?_eq_some_iff.1 ho).1
     rw [hgrow3.block j ?_ ?_, heap_old _ _ ?_, heap_old _ _ hjW]
     ·exact ho
     ·show j < (W.heap.push _).size
      rw [Array.size_push]
      omega
     ·show j < ((W.heap.push _).push _).size
      rw [Array.size_push, Array.size_push]
      omega
     ·rcases g6.2 with ⟨q, _⟩ | ⟨g, cap, cur, q, q1, _⟩
      ·rw [q]; intro z; cases z
      ·rw [q]; intro z
       have z1 : j = g := Option.some.inj z
       omega
    have hmb' : mb ≤ w.heap.size := Nat.le_of_lt hmb
    refine ⟨⟨vis ++ [e], seen.push e.born, hcar mb _ hmb' k1, hcar _ _ (Nat.le_refl _) k2, ?_, ?_, ?_, ?_, ?_⟩, ?_⟩
    ·intro x hx
     rcases List.mem_append.1 hx with y | y
     ·exact g3 x y
     ·rw [List.mem_singleton.1 y]; exact he'
    ·rw [Array.toList_push, g4, List.map_append]; rfl
    ·rw [List.map_append, List.nodup_append]
     refine ⟨g5, by simp, fun a ha b hb q => ?_⟩
     have hb' : b = e.born := by simpa using hb
     rw [← g4] at ha
     refine hne ?_
     rw [← hb', ← q]
     simpa using ha
    ·rw [List.length_append, List.map_append]
     exact hown'
    ·refine (((g7.grown k3 g7.size (fun k q => by cases q; exact Nat.le_refl _)).alloc ?_ _).alloc ?_ _).grown hgrow3 ?_ ?_
     ·rw [k4]; exact g7.size
     ·show w.heap.size ≤ (W.heap.push _).size
      rw [Array.size_push, k4]; omega
     ·show w.heap.size ≤ ((W.heap.push _).push _).size
      rw [Array.size_push, Array.size_push, k4]; omega
     ·intro k hk
      rcases g6.2 with ⟨q, _⟩ | ⟨g, cap, cur, q, q1, _⟩
      ·rw [q] at hk; cases hk
      ·rw [q] at hk
       have : g = k := Option.some.inj hk
       omega
    ·rw [hcar _ _ (Nat.le_refl _) k2, g2]
     exact left_lt he' (by simpa using hne)
def tzS (x : Int) : Option Int := match tzC x with | true => some (tzF x) | false => none
theorem tzS_ok {x r : Int} (h : tzS x = some r) (w : World) (hI : seatInv w) : Calls Proofs.Tryz.prog 135 #[.int .u64 x] w (fun e w' => e = .returned (.int .i64 r) ∧ Below w.heap.size w w') := by
 unfold tzS at h
 cases hc : tzC x with
 | false => rw [hc] at h; cases h
 | true =>
  rw [hc] at h
  cases h
  exact tzF_ok hc w hI
end Go.Xm

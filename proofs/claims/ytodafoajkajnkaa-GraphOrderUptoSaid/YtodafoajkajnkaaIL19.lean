/- The ideal logic, part 19: what lives was made before; what a call keeps. Nothing here speaks of a given program. -/
import Derived.Test.YtodafoajkajnkaaIL18
set_option linter.unusedVariables false
set_option linter.unusedSimpArgs false
namespace Go.Proofs.Ytodafoajkajnkaa.IL
open Go Go.RowKit

/-- What lives was made before. -/
def Heap.wf (H : Heap) : Prop := ∀ id b, H.get id = some b → id.g < H.next id.k
theorem RelH.wf {J : Inj} {S : Sure} {H : Heap} {w : World} (h : RelH J S H w) : H.wf := fun id b hb => by
  obtain ⟨L, hL, _⟩ := h.blk id b hb
  exact h.next id L hL
theorem W_wf {P : Program} {c : Code} {Q : Exit → Fr → Heap → Prop} {a : Fr} {H : Heap} (h : H.wf → W P c Q a H) : W P c Q a H := fun B ro J S ra w hF hH hO => h hH.wf B ro J S ra w hF hH hO
theorem call_introW {P : Program} (b : Nat) (hm : P.follows .mixedOrders = true) {f : FuncId} {fn : Func} {c : Code} {args : List IV} {H : Heap} {K : IV → Heap → Prop} (hf : P.funcs[f]? = some fn) (hb : fn.body = some c) (hname : (fn.name == "runtime.NumGoroutine") = false) (hn : args.length ≤ fn.ntmps)
    (h : H.wf → vc P c (retQ P fn K) (fr0 fn.ntmps b args) H) : CallW P f args H K := CallW_intro b hf hb hname hn (W_wf fun w => vc_sound hm c _ _ _ (h w))
/-- A loop, where it is known of each round's heap that what lives was made before. -/
theorem V_loopW {P : Program} (hm : P.follows .mixedOrders = true) {Q : Exit → Fr → Heap → Prop} {a0 : Fr} {H0 : Heap} {α : Type} (I : α → Fr → Heap → Prop) (μ : α → Nat) (x0 : α) {c : Code} (h0 : H0.wf → SeesK a0 H0 fun a1 H1 => a1.n = a0.n ∧ I x0 a1 H1)
    (hr : ∀ x a H, a.n = a0.n → H.wf → I x a H → vc P c (fun e a' H' => SeesK a' H' fun a2 H2 => match e with | .normal => a2.n = a.n ∧ ∃ y, μ y < μ x ∧ I y a2 H2 | e => Q e a2 H2) a H) : W P (.loop c) Q a0 H0 := by
  refine W_wf fun hw => ?_
  obtain ⟨a1, H1, hs, hn, hI⟩ := h0 hw
  refine W_sees hs (W_post ?_)
  refine W_loop (fun x a H => a.n = a0.n ∧ I x a H) μ x0 ⟨hn, hI⟩ ?_
  rintro x a H ⟨hn, hI⟩
  refine W_wf fun hw => W_post ((vc_sound hm c _ a H (hr x a H hn hw hI)).mono ?_)
  rintro e a' H' ⟨a2, H2, hs, hq⟩
  cases e with
  | normal =>
    obtain ⟨h1, y, h2, h3⟩ := hq
    exact ⟨a2, H2, hs, y, h2, h1.trans hn, h3⟩
  | _ => exact ⟨a2, H2, hs, a2, H2, .refl, hq⟩

/-- All that was made before, but for some, is as it was. -/
structure Kept (X : Id → Prop) (H H' : Heap) : Prop where
  get : ∀ id, id.g < H.next id.k → ¬ X id → H'.get id = H.get id
  up : ∀ k, H.next k ≤ H'.next k
theorem Kept.refl {X : Id → Prop} {H : Heap} : Kept X H H := ⟨fun _ _ _ => rfl, fun _ => Nat.le_refl _⟩
theorem Kept.trans {X : Id → Prop} {H H' H'' : Heap} (h : Kept X H H') (k : Kept X H' H'') : Kept X H H'' :=
  ⟨fun id h1 h2 => (k.get id (Nat.lt_of_lt_of_le h1 (h.up _)) h2).trans (h.get id h1 h2), fun j => Nat.le_trans (h.up j) (k.up j)⟩
theorem Kept.step {X Y : Id → Prop} {H H' H'' : Heap} (h : Kept X H H') (k : Kept Y H' H'') (hy : ∀ id, Y id → X id ∨ H.next id.k ≤ id.g) : Kept X H H'' :=
  ⟨fun id h1 h2 => (k.get id (Nat.lt_of_lt_of_le h1 (h.up _)) fun y => (hy id y).elim h2 fun e => by omega).trans (h.get id h1 h2), fun j => Nat.le_trans (h.up j) (k.up j)⟩
theorem Kept.mono {X Y : Id → Prop} {H H' : Heap} (h : Kept X H H') (k : ∀ id, X id → Y id) : Kept Y H H' := ⟨fun id h1 h2 => h.get id h1 fun x => h2 (k id x), h.up⟩
theorem kept_new {X : Id → Prop} {H : Heap} {k : Nat} {b : Blk} : Kept X H (H.new k b) :=
  ⟨fun id h1 _ => by
    have e : ¬ id = ⟨k, H.next k⟩ := by intro e; subst e; simp at h1
    simp [e], fun j => by
    by_cases e : j = k
    · subst e; simp
    · simp [e]⟩
theorem kept_put {X : Id → Prop} {H : Heap} {id : Id} {b : Blk} (h : X id) : Kept X H (H.put id b) :=
  ⟨fun j h1 h2 => by
    have e : ¬ j = id := by intro e; subst e; exact h2 h
    simp [e], fun _ => Nat.le_refl _⟩
/-- What lives is kept where it is none of those. -/
theorem Kept.live {X : Id → Prop} {H H' : Heap} (h : Kept X H H') (hw : H.wf) {id : Id} {b : Blk} (hb : H.get id = some b) (hx : ¬ X id) : H'.get id = some b := (h.get id (hw id b hb) hx).trans hb

/-- The block of a growing list. -/
def slId (v : IV) (id : Id) : Prop := match v with | .sb i _ _ _ => id = i | _ => False

end Go.Proofs.Ytodafoajkajnkaa.IL

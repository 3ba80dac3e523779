/- The own machine: the rules that run a text, found by their shape. -/
import Derived.Test.YtmlinnkaccgcgaaGreatOMTac2
set_option linter.all false
namespace Go.Proofs.YtmlinnkaccgcgaaGreat.OM
class Stp (P : Prop) (R : outParam Prop) : Prop where
  imp : R → P
section
variable {Γ : Env} {Q : Out → Prop} {L : AL} {F : PF} {xs : List V}
instance {a b : PC} : Stp (Wp Γ (.seq a b) Q L) (Wp Γ a (seqQ Γ b Q) L):=⟨wp_seq⟩
instance {id : Nat} {c : PC} : Stp (Wp Γ (.blk id c) Q L) (Wp Γ c (blkQ id Q) L):=⟨wp_blk⟩
instance : Stp (Wp Γ .skip Q L) (Q (.norm L)):=⟨wp_skip⟩
instance {id : Nat} : Stp (Wp Γ (.exit id) Q L) (Q (.exit id L)):=⟨wp_exit⟩
instance : Stp (Wp Γ .ret Q L) (Q (.ret L)):=⟨wp_ret⟩
instance {b : PC} : Stp (seqQ Γ b Q (.norm L)) (Wp Γ b Q L):=⟨seqQ_norm⟩
instance {b : PC} : Stp (seqQ Γ b Q (.ret L)) (Q (.ret L)):=⟨seqQ_ret⟩
instance {b : PC} {i : Nat} : Stp (seqQ Γ b Q (.exit i L)) (Q (.exit i L)):=⟨seqQ_exit⟩
instance {id : Nat} : Stp (blkQ id Q (.norm L)) (Q (.norm L)):=⟨blkQ_norm⟩
instance {id : Nat} : Stp (blkQ id Q (.ret L)) (Q (.ret L)):=⟨blkQ_ret⟩
instance {id : Nat} : Stp (blkQ id Q (.exit id L)) (Q (.norm L)):=⟨blkQ_exit⟩
instance {σ : Type} {I : σ → AL} {p : σ → Prop} {m : σ → Nat} {n : Nat} : Stp (loopQ I p m n Q (.norm L)) (∃ s',L = I s' ∧ p s' ∧ m s' < n):=⟨loopQ_norm⟩
instance {σ : Type} {I : σ → AL} {p : σ → Prop} {m : σ → Nat} {n i : Nat} : Stp (loopQ I p m n Q (.exit i L)) (Q (.exit i L)):=⟨loopQ_exit⟩
instance {σ : Type} {I : σ → AL} {p : σ → Prop} {m : σ → Nat} {n : Nat} : Stp (loopQ I p m n Q (.ret L)) (Q (.ret L)):=⟨loopQ_ret⟩
instance {y} : Stp (endQ F xs y (.ret L)) (finish F xs L = some y):=⟨endQ_ret⟩
instance {y} : Stp (endQ F xs y (.norm L)) (finish F xs L = some y):=⟨endQ_norm⟩
instance {Φ} : Stp (endE F xs Φ (.ret L)) (∃ y,finish F xs L = some y ∧ Φ y):=⟨endE_ret⟩
instance {Φ} : Stp (endE F xs Φ (.norm L)) (∃ y,finish F xs L = some y ∧ Φ y):=⟨endE_norm⟩
instance {Φ} : Stp (endI F xs Φ (.ret L)) (∃ n,finish F xs L = some (vi n,[]) ∧ Φ n):=⟨endI_ret⟩
instance {Φ} : Stp (endI F xs Φ (.norm L)) (∃ n,finish F xs L = some (vi n,[]) ∧ Φ n):=⟨endI_norm⟩
theorem Zs {P R : Prop} [s : Stp P R] (h : R) : P:=s.imp h
theorem We {x : PX} {a b : PC} {t : Bool} (h : (L.st.ev x).asBool = some t) (h1 : t = true → Wp Γ a Q L) (h2 : t = false → Wp Γ b Q L) : Wp Γ (.cond x a b) Q L:=wp_cond h h1 h2
end
section
variable {Γ : Env} {Q : Out → Prop} {L : AL}
instance {a b : PC} : Stp (Wp Γ (cond true a b) Q L) (Wp Γ a Q L):=⟨fun h => h⟩
instance {a b : PC} : Stp (Wp Γ (cond false a b) Q L) (Wp Γ b Q L):=⟨fun h => h⟩
theorem Xb {x : PX} {a b : PC} {t : Bool} (h1 : (L.st.ev x).asBool = some t) (h : Wp Γ (cond t a b) Q L) : Wp Γ (.cond x a b) Q L:=wp_cond h1 (fun e => by subst e; exact h) (fun e => by subst e; exact h)
theorem Xt {x : PX} {a b : PC} (h1 : (L.st.ev x).asBool = some true) (h : Wp Γ a Q L) : Wp Γ (.cond x a b) Q L:=wp_cond h1 (fun _ => h) (fun e => by cases e)
theorem Xf {x : PX} {a b : PC} (h1 : (L.st.ev x).asBool = some false) (h : Wp Γ b Q L) : Wp Γ (.cond x a b) Q L:=wp_cond h1 (fun e => by cases e) (fun _ => h)
theorem Xk {live ren ops draw} (h : ∀ K : Out → Prop,(∀ o,Q o → K o) → regQ K (runReg Γ live ren ops draw L)) : Wp Γ (.reg live ren ops draw) Q L:=wp_regK h
end
theorem Wi (n : Int) (h1 : -9223372036854775808 ≤ n:=by omega) (h2 : n ≤ 9223372036854775807:=by omega) : IntKind.wrap .i64 n = n:=wrap_i64 h1 h2
theorem Ga {T : Nat → Option PF} {f : Nat} {xs : List V} {y} (F : PF) (b : PC) (h : Wp (Gw T) b (endQ F xs y) (initAL 0 xs)) (hT : T f = some F:=by rfl)
    (hc : (xs.all V.argOk && F.io.all (fun i => ((initAL 0 xs).get i).2.isSome)) = true:=by rfl) (hb : F.body = b:=by rfl) : Gw T f xs = some y:=by
  subst hb; exact Gw_of hT hc h
theorem J2 {A B : Prop} (a : A) (b : B) : A ∧ B:=⟨a,b⟩
theorem J3 {A B C : Prop} (a : A) (b : B) (c : C) : A ∧ B ∧ C:=⟨a,b,c⟩
theorem J4 {A B C D : Prop} (a : A) (b : B) (c : C) (d : D) : A ∧ B ∧ C ∧ D:=⟨a,b,c,d⟩
theorem J5 {A B C D E : Prop} (a : A) (b : B) (c : C) (d : D) (e : E) : A ∧ B ∧ C ∧ D ∧ E:=⟨a,b,c,d,e⟩
theorem J6 {A B C D E F : Prop} (a : A) (b : B) (c : C) (d : D) (e : E) (f : F) : A ∧ B ∧ C ∧ D ∧ E ∧ F:=⟨a,b,c,d,e,f⟩
theorem J7 {A B C D E F H : Prop} (a : A) (b : B) (c : C) (d : D) (e : E) (f : F) (h : H) : A ∧ B ∧ C ∧ D ∧ E ∧ F ∧ H:=⟨a,b,c,d,e,f,h⟩
theorem J8 {A B C D E F H I : Prop} (a : A) (b : B) (c : C) (d : D) (e : E) (f : F) (h : H) (i : I) : A ∧ B ∧ C ∧ D ∧ E ∧ F ∧ H ∧ I:=⟨a,b,c,d,e,f,h,i⟩
theorem repS {n : Nat} {a : List D} : List.replicate (n + 1) a = a :: List.replicate n a:=rfl
theorem Oo : True:=trivial
structure Bxd (A : Prop) : Prop where
  out : A
theorem Ua {F G A B C D E : Prop} (f : F:=by exact trivial) (a : A:=by exact trivial) (b : B:=by exact trivial) (c : C:=by exact trivial) (d : D:=by exact trivial) (e : E:=by exact trivial) (h : F → Bxd A → Bxd B → Bxd C → Bxd D → Bxd E → G:=by
  intro f a b c d e
  repeat' first|refine Zs ?_|(refine Xk fun K k=>?_;simp [f];refine k _ ?_;clear k K)|refine Xb rfl ?_
  all_goals first|exact a.out|exact b.out|exact c.out|exact d.out|exact e.out) : G:=h f ⟨a⟩ ⟨b⟩ ⟨c⟩ ⟨d⟩ ⟨e⟩
theorem Uw {F G A B C D E : Prop} (f : F:=by exact trivial) (a : A:=by exact trivial) (b : B:=by exact trivial) (c : C:=by exact trivial) (d : D:=by exact trivial) (e : E:=by exact trivial) (h : F → Bxd A → Bxd B → Bxd C → Bxd D → Bxd E → G:=by
  intro f a b c d e
  repeat' first|refine Zs ?_|(refine Xk fun K k=>?_;simp [f];refine k _ ?_;clear k K)|refine Xt rfl ?_|refine Xf rfl ?_|(refine We rfl ?_ ?_<;>intro h9<;>(try simp at h9)<;>first|(exfalso;omega)|skip)
  all_goals (repeat revert h9)
  all_goals first|exact a.out|exact b.out|exact c.out|exact d.out|exact e.out) : G:=h f ⟨a⟩ ⟨b⟩ ⟨c⟩ ⟨d⟩ ⟨e⟩
theorem Up {F G A B C D E : Prop} (f : F:=by exact trivial) (a : A:=by exact trivial) (b : B:=by exact trivial) (c : C:=by exact trivial) (d : D:=by exact trivial) (e : E:=by exact trivial) (h : F → Bxd A → Bxd B → Bxd C → Bxd D → Bxd E → G:=by
  intro f a b c d e
  repeat' first|refine Zs ?_|(refine Xk fun K k=>?_;simp [f];(repeat' first|refine k _ ?_|(refine psel ?_ ?_<;>intro h9<;>first|(exfalso;omega)|(try simp [h9,f])));all_goals clear k K)|refine Xb rfl ?_
  all_goals (repeat revert h9)
  all_goals first|exact a.out|exact b.out|exact c.out|exact d.out|exact e.out) : G:=h f ⟨a⟩ ⟨b⟩ ⟨c⟩ ⟨d⟩ ⟨e⟩
theorem Uc {F G A B C D E : Prop} (f : F:=by exact trivial) (a : A:=by exact trivial) (b : B:=by exact trivial) (c : C:=by exact trivial) (d : D:=by exact trivial) (e : E:=by exact trivial) (h : F → Bxd A → Bxd B → Bxd C → Bxd D → Bxd E → G:=by
  intro f a b c d e
  repeat' first|refine Zs ?_|(refine Xk fun K k=>?_;simp [f];(repeat' first|refine k _ ?_|(refine psel ?_ ?_<;>intro h9<;>first|(exfalso;omega)|(try simp [h9,f])));all_goals clear k K)|refine Xt rfl ?_|refine Xf rfl ?_|(refine We rfl ?_ ?_<;>intro h9<;>(try simp at h9)<;>first|(exfalso;omega)|skip)
  all_goals (repeat revert h9)
  all_goals first|exact a.out|exact b.out|exact c.out|exact d.out|exact e.out) : G:=h f ⟨a⟩ ⟨b⟩ ⟨c⟩ ⟨d⟩ ⟨e⟩
theorem Ud {F G A B C D E : Prop} (f : F:=by exact trivial) (a : A:=by exact trivial) (b : B:=by exact trivial) (c : C:=by exact trivial) (d : D:=by exact trivial) (e : E:=by exact trivial) (h : F → Bxd A → Bxd B → Bxd C → Bxd D → Bxd E → G:=by
  intro f a b c d e
  repeat' first|refine Zs ?_|((with_reducible refine Xk fun K k=>?_);simp [f];(repeat' (with_reducible first|refine k _ ?_|(refine psel ?_ ?_<;>(intro h9;(try rw [Decidable.not_not] at h9);first|(exfalso;omega)|(try simp [h9,f])))));all_goals clear k K)|refine Xt rfl ?_|refine Xf rfl ?_|(refine We rfl ?_ ?_<;>intro h9<;>(try simp at h9)<;>first|(exfalso;omega)|skip)
  all_goals (repeat revert h9)
  all_goals first|exact a.out|exact b.out|exact c.out|exact d.out|exact e.out) : G:=h f ⟨a⟩ ⟨b⟩ ⟨c⟩ ⟨d⟩ ⟨e⟩
end Go.Proofs.YtmlinnkaccgcgaaGreat.OM

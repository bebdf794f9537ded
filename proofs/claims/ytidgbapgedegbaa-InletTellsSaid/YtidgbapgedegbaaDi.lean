/- A path's chunks. -/
import Derived.Test.YtidgbapgedegbaaDd
import Derived.Test.YtidgbapgedegbaaDh
import Derived.Test.YtidgbapgedegbaaKq
import Derived.KernelRfl
namespace Go.Proofs.Ytidgbapgedegbaa
open Go Go.AS
set_option maxRecDepth 100000
set_option linter.unusedSimpArgs false
set_option linter.unusedVariables false
attribute [local irreducible] Trie.set Trie.get Env.rd
attribute [local simp ↓] wV_b2s
attribute [local simp] Nat.add_assoc wD_cons'' wD_nil' wC_seq wC_ops wC_opsD_nil wC_cond wC_skip wC_ret wC_exit wC_block wO_cons' wO_nil wantedA wV_eq lop qop ev wL_some wL_none wPut envOf rd_set rd_leaf eqA thenC blockC wB_true wB_false endF unwindA resultsA resA tupleA rdCell rdCells wrCells cl fillP lay rep binA unA get_set' AHeap.get_alloc oneCell beqd bned idxA

def ucells (l : List Int) : List Value := l.map fun x => .int .u8 x
theorem mpc_len (m : Mp) : (mpc m).length = 4 := rfl
/-- What chunks has so far. -/
structure ChF (A0 : AHeap) (q1 : Nat) (pc : List Value) (vm vt : Value) (cs : List Ck) (A : AHeap) : Prop where
  gq : A.get q1 = some (.cells pc false 0)
  sm : SliceAt A 4 vm cs.length (encs mpc (cs.map (·.m)))
  st : SliceAt A 1 vt cs.length (strB (cs.map (·.t)))
  om : ∀ j, Own vm j → A0.size ≤ j ∧ j ≠ q1
  ot : ∀ j, Own vt j → A0.size ≤ j ∧ j ≠ q1
  dj : ∀ j, Own vm j → ¬ Own vt j
  ex : Ext NoB A0 A
  lq : A0.size ≤ q1
theorem ChF.extN {A0 : AHeap} {q1 : Nat} {pc : List Value} {vm vt : Value} {cs : List Ck} {A A' : AHeap} (h : ChF A0 q1 pc vm vt cs A) (e : Ext NoB A A') : ChF A0 q1 pc vm vt cs A' :=
  ⟨e.get h.gq id, h.sm.ext e fun _ _ => id, h.st.ext e fun _ _ => id, h.om, h.ot, h.dj, h.ex.trans e, h.lq⟩

set_option maxHeartbeats 1600000 in
theorem chunk_u (A0 A : AHeap) (q1 q10 at_ k n : Nat) (pc : List Value) (vm vt : Value) (cs : List Ck) (m : Mp) (s : List UInt8) (env : Env) (Q : AExit → St → Prop) (h : ChF A0 q1 pc vm vt cs A) (hcs : cs.length < 100000) (hn : at_ + n ≤ s.length) (hs : s.length ≤ 600)
    (r1 : env.rd 1 = .pointer (some ⟨q1, 0, none⟩)) (r4 : env.rd 4 = .string ⟨⟨s⟩⟩) (r5 : env.rd 5 = vm) (r6 : env.rd 6 = vt) (r7 : env.rd 7 = .int .i64 at_) (r8 : env.rd 8 = .int .i64 k) (r9 : env.rd 9 = .int .i64 n) (r10 : env.rd 10 = .pointer (some ⟨q10, 0, none⟩)) (g10 : A.get q10 = some (.cells (mpc m) false 0))
    (hq : ∀ env' A' vm' vt', ChF A0 q1 pc vm' vt' (cs ++ [⟨m, (s.drop at_).take n⟩]) A' → env'.rd 1 = .pointer (some ⟨q1, 0, none⟩) → env'.rd 4 = .string ⟨⟨s⟩⟩ → env'.rd 5 = vm' → env'.rd 6 = vt' → env'.rd 7 = .int .i64 ((at_ + n : Nat) : Int) → env'.rd 8 = .int .i64 k → Q .normal { env := env', n := 94, dfs := [], A := A' }) :
    wC T 36 none d36u { env := env, n := 94, dfs := [], A := A } Q := by
  have e1 : Ext NoB A (A.alloc (.cells (mpc m) false 0)) := Ext.alloc
  have h1 := h.extN e1
  obtain ⟨vm', A2, a1, a2, a3, a4⟩ := h1.sm.append (x := .slice (some ⟨A.size, 0, none⟩) 1 1) (m := 1) (new := mpc m) (bytes := 32) (by decide) rfl (by simp [firstA, ENDCAP, mpc_len]; rfl) rfl rfl (by omega) (by decide) (fun q => by cases q)
  have st2 := h1.st.ext a3 fun j hj q => h.dj j q hj
  have gq2 := a3.get h1.gq fun q => (h.om _ q).2 rfl
  have z2 := a3.size
  have om2 : ∀ j, Own vm' j → A0.size ≤ j ∧ j ≠ q1 := fun j hj => by
    rcases a4 j hj with q | q
    · exact h.om j q
    · have := h.ex.size
      have := AHeap.get_lt h1.gq
      simp at q this
      have := AHeap.get_lt h.gq
      exact ⟨by omega, by omega⟩
  have wi : IntKind.i64.wrap ((at_ : Int) + (n : Int)) = (at_ : Int) + (n : Int) := IntWalk.i64_in _ (by omega)
  have hsl := sl_mid s .i64 .i64 at_ (at_ + n) (by omega) hn
  rw [show at_ + n - at_ = n by omega, show ((at_ + n : Nat) : Int) = (at_ : Int) + (n : Int) by omega] at hsl
  generalize hA2 : A2 = B2 at *
  have e3 : Ext NoB B2 (B2.alloc (.cells [.string ⟨⟨(s.drop at_).take n⟩⟩] false 0)) := Ext.alloc
  obtain ⟨vt', A4, b1, b2, b3, b4⟩ := (st2.ext e3 fun _ _ => id).append (x := .slice (some ⟨B2.size, 0, none⟩) 1 1) (m := 1) (new := [.string ⟨⟨(s.drop at_).take n⟩⟩]) (bytes := 16) (by decide) rfl (by simp [firstA, ENDCAP]) rfl rfl (by omega) (by decide) (fun q => by cases q)
  unfold d36u
  have hm4 : lay [.int .i64 0, .int .i64 0, .int .i64 0, .int .u16 0] 0 (mpc m) = mpc m := rfl
  have hmc : mpc m = [.int .i64 m.at_, .int .i64 m.off, .int .i64 m.len, .int .u16 m.sum] := rfl
  rw [hmc] at a1
  simp [mpc] at g10
  simp [r4, r5, r6, r7, r9, r10, g10, a1, wi, hsl, b1]
  have dj1 : ∀ j, Own vm' j → ¬ Own vt j := fun j hj q => by
    rcases a4 j hj with z | z
    · exact h.dj j z q
    · have := h1.st.own_lt q
      omega
  refine hq _ A4 vm' vt' ⟨?_, ?_, ?_, om2, fun j hj => ?_, fun j hj q => ?_, ?_, h.lq⟩ ?_ ?_ ?_ ?_ ?_ ?_
  · exact b3.get (e3.get gq2 id) fun q => (h.ot _ q).2 rfl
  · have := (a2.ext e3 fun _ _ => id).ext b3 fun j hj q => dj1 j hj q
    rw [List.length_append, List.map_append, encs_append]
    simpa [encs] using this
  · rw [List.length_append, List.map_append]
    simpa [strB] using b2
  · rcases b4 j hj with q | q
    · exact h.ot j q
    · have := e3.size
      have := h.ex.size
      have := AHeap.get_lt gq2
      simp at z2
      exact ⟨by omega, by omega⟩
  · rcases b4 j q with z | z
    · exact dj1 j hj z
    · have := a2.own_lt hj
      have := e3.size
      omega
  · exact ((h.ex.trans e1).trans2 a3 fun b hb q => by have := (h.om b q).1; omega).trans2 ((e3.mono fun _ _ q => q.elim).trans b3) fun b hb q => by have := (h.ot b q).1; omega
  · simp [r1]
  · simp [r4]
  · simp
  · simp
  · simp
  · simp [r8]
end Go.Proofs.Ytidgbapgedegbaa

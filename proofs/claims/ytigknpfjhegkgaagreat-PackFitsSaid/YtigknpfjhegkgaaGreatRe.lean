/- The reference's addresses and small options, laid. -/
import Derived.Test.YtigknpfjhegkgaaGreatRc
import Derived.KernelRfl
namespace Go.Proofs.YtigknpfjhegkgaaGreat
open Go Go.AS
set_option maxRecDepth 100000
set_option linter.unusedSimpArgs false
set_option linter.unusedVariables false
attribute [local irreducible] Trie.set Trie.get Env.rd
attribute [local simp ↓] wV_b2s
attribute [local simp] Nat.add_assoc wD_cons'' wD_nil' wC_seq wC_ops wC_opsD_nil wC_cond wC_skip wC_ret wC_exit wC_block wO_cons' wO_nil wantedA wV_eq lop qop ev wL_some wL_none wPut envOf rd_set rd_leaf eqA thenC blockC wB_true wB_false endF unwindA resultsA resA tupleA rdCell rdCells wrCells cl fillP lay rep binA unA get_set' AHeap.get_alloc oneCell beqd bned idxA

theorem rmay12_ok (A : AHeap) (x : Ad) (Q : Value → AHeap → Prop) (hq : ∀ A', Ext NoB A A' → Q (.bool x.may) A') : wF T (.func (.func 125) #[] #[]) [.agg ⟨x.cells⟩] A Q := by
  refine wF_func (first := []) (captured := []) t125 ⟨rfl, by decide⟩ ?_
  dsimp only [c125]
  have hc := Ad.cells_eq x
  simp [hc]
  generalize hA1 : A.alloc _ = A1
  obtain ⟨g1, e1, z1⟩ := alloc_facts hA1
  have hq := hq A1 e1
  have no : ∀ p : Prop, ¬ p → (x.may = true → p) → x.may = false := fun p h k => by cases hm : x.may with | false => rfl | true => exact absurd (k hm) h
  have am : x.may = true → 0 ≤ x.id ∧ x.id ≤ 255 ∧ (x.ip.length = 4 ∨ x.ip.length = 16) ∧ 0 ≤ x.port ∧ x.port ≤ 65535 ∧ (x.hasPort = false → x.port = 0) ∧ (x.mac.length : Int) = (if x.echo then 0 else 8) := by
    intro h
    simp only [Ad.may, Bool.and_eq_true, Bool.or_eq_true, decide_eq_true_eq] at h
    obtain ⟨⟨⟨⟨h1, h2⟩, h3⟩, h4⟩, h5⟩ := h
    refine ⟨h1.1, h1.2, h2, h3.1, h3.2, fun q => h4.resolve_left (by rw [q]; decide), ?_⟩
    rw [h5]; split <;> rfl
  have yes : 0 ≤ x.id ∧ x.id ≤ 255 ∧ (x.ip.length = 4 ∨ x.ip.length = 16) ∧ 0 ≤ x.port ∧ x.port ≤ 65535 ∧ (x.hasPort = false → x.port = 0) ∧ (x.mac.length : Int) = (if x.echo then 0 else 8) → x.may = true := by
    rintro ⟨h1, h2, h3, h4, h5, h6, h7⟩
    simp only [Ad.may, Bool.and_eq_true, Bool.or_eq_true, decide_eq_true_eq]
    refine ⟨⟨⟨⟨⟨h1, h2⟩, h3⟩, h4, h5⟩, ?_⟩, ?_⟩
    · cases hp : x.hasPort
      · exact .inr (h6 hp)
      · exact .inl rfl
    · revert h7; split <;> omega
  cases he : x.echo
  · rw [he] at yes am
    simp only [if_true, Bool.false_eq_true, if_false] at yes am
    by_cases a0 : 0 ≤ x.id
    · by_cases a1 : x.id ≤ 255
      · by_cases a2 : x.ip.length = 4 ∨ x.ip.length = 16
        · by_cases a4 : 0 ≤ x.port
          · by_cases a5 : x.port ≤ 65535
            · cases hp : x.hasPort
              · by_cases p0 : x.port = 0
                · by_cases m0 : (x.mac.length : Int) = 8
                  · rw [yes ⟨a0, a1, a2, a4, a5, fun _ => p0, m0⟩] at hq
                    by_cases a3 : x.ip.length = 4
                    · simp [g1, he, a0, a1, a3, p0, hp, m0, undef]
                      try exact hq
                    · have a3' : x.ip.length = 16 := a2.resolve_left a3
                      simp [g1, he, a0, a1, a3', p0, hp, m0, undef]
                      try exact hq
                  · rw [no _ m0 fun h => (am h).2.2.2.2.2.2] at hq
                    have m1 : (x.mac = [] ∧ (0 : Int) = 8) = False := eq_false fun q => m0 (by rw [q.1]; exact q.2)
                    by_cases a3 : x.ip.length = 4
                    · simp [g1, he, a0, a1, a3, p0, hp, m0, m1, undef]
                      try exact hq
                    · have a3' : x.ip.length = 16 := a2.resolve_left a3
                      simp [g1, he, a0, a1, a3', p0, hp, m0, m1, undef]
                      try exact hq
                · rw [no _ p0 fun h => (am h).2.2.2.2.2.1 hp] at hq
                  by_cases a3 : x.ip.length = 4
                  · simp [g1, he, a0, a1, a3, a4, a5, p0, hp, undef]
                    try exact hq
                  · have a3' : x.ip.length = 16 := a2.resolve_left a3
                    simp [g1, he, a0, a1, a3', a4, a5, p0, hp, undef]
                    try exact hq
              · by_cases m0 : (x.mac.length : Int) = 8
                · rw [yes ⟨a0, a1, a2, a4, a5, fun q => absurd (hp.symm.trans q) (by decide), m0⟩] at hq
                  by_cases a3 : x.ip.length = 4
                  · simp [g1, he, a0, a1, a3, a4, a5, hp, m0, undef]
                    try exact hq
                  · have a3' : x.ip.length = 16 := a2.resolve_left a3
                    simp [g1, he, a0, a1, a3', a4, a5, hp, m0, undef]
                    try exact hq
                · rw [no _ m0 fun h => (am h).2.2.2.2.2.2] at hq
                  have m1 : (x.mac = [] ∧ (0 : Int) = 8) = False := eq_false fun q => m0 (by rw [q.1]; exact q.2)
                  by_cases a3 : x.ip.length = 4
                  · simp [g1, he, a0, a1, a3, a4, a5, hp, m0, m1, undef]
                    try exact hq
                  · have a3' : x.ip.length = 16 := a2.resolve_left a3
                    simp [g1, he, a0, a1, a3', a4, a5, hp, m0, m1, undef]
                    try exact hq
            · rw [no _ a5 fun h => (am h).2.2.2.2.1] at hq
              by_cases a3 : x.ip.length = 4
              · simp [g1, he, a0, a1, a3, a4, a5, undef]
                try exact hq
              · have a3' : x.ip.length = 16 := a2.resolve_left a3
                simp [g1, he, a0, a1, a3', a4, a5, undef]
                try exact hq
          · rw [no _ a4 fun h => (am h).2.2.2.1] at hq
            by_cases a3 : x.ip.length = 4
            · simp [g1, he, a0, a1, a3, a4, undef]
              try exact hq
            · have a3' : x.ip.length = 16 := a2.resolve_left a3
              simp [g1, he, a0, a1, a3', a4, undef]
              try exact hq
        · rw [no _ a2 fun h => (am h).2.2.1] at hq
          have a3 : ¬ (x.ip.length : Int) = 4 := by omega
          have a3' : ¬ (x.ip.length : Int) = 16 := by omega
          simp [g1, he, a0, a1, a3, a3', undef]
          try exact hq
      · rw [no _ a1 fun h => (am h).2.1] at hq
        simp [g1, he, a0, a1, undef]
        try exact hq
    · rw [no _ a0 fun h => (am h).1] at hq
      simp [g1, he, a0, undef]
      try exact hq
  · rw [he] at yes am
    simp only [if_true, Bool.false_eq_true, if_false] at yes am
    by_cases a0 : 0 ≤ x.id
    · by_cases a1 : x.id ≤ 255
      · by_cases a2 : x.ip.length = 4 ∨ x.ip.length = 16
        · by_cases a4 : 0 ≤ x.port
          · by_cases a5 : x.port ≤ 65535
            · cases hp : x.hasPort
              · by_cases p0 : x.port = 0
                · by_cases m0 : (x.mac.length : Int) = 0
                  · rw [yes ⟨a0, a1, a2, a4, a5, fun _ => p0, m0⟩] at hq
                    by_cases a3 : x.ip.length = 4
                    · simp [g1, he, a0, a1, a3, p0, hp, m0, undef]
                      try exact hq
                    · have a3' : x.ip.length = 16 := a2.resolve_left a3
                      simp [g1, he, a0, a1, a3', p0, hp, m0, undef]
                      try exact hq
                  · rw [no _ m0 fun h => (am h).2.2.2.2.2.2] at hq
                    have m1 : (x.mac = [] ∧ (0 : Int) = 0) = False := eq_false fun q => m0 (by rw [q.1]; exact q.2)
                    simp at m1
                    by_cases a3 : x.ip.length = 4
                    · simp [g1, he, a0, a1, a3, p0, hp, m0, m1, undef]
                      try exact hq
                    · have a3' : x.ip.length = 16 := a2.resolve_left a3
                      simp [g1, he, a0, a1, a3', p0, hp, m0, m1, undef]
                      try exact hq
                · rw [no _ p0 fun h => (am h).2.2.2.2.2.1 hp] at hq
                  by_cases a3 : x.ip.length = 4
                  · simp [g1, he, a0, a1, a3, a4, a5, p0, hp, undef]
                    try exact hq
                  · have a3' : x.ip.length = 16 := a2.resolve_left a3
                    simp [g1, he, a0, a1, a3', a4, a5, p0, hp, undef]
                    try exact hq
              · by_cases m0 : (x.mac.length : Int) = 0
                · rw [yes ⟨a0, a1, a2, a4, a5, fun q => absurd (hp.symm.trans q) (by decide), m0⟩] at hq
                  by_cases a3 : x.ip.length = 4
                  · simp [g1, he, a0, a1, a3, a4, a5, hp, m0, undef]
                    try exact hq
                  · have a3' : x.ip.length = 16 := a2.resolve_left a3
                    simp [g1, he, a0, a1, a3', a4, a5, hp, m0, undef]
                    try exact hq
                · rw [no _ m0 fun h => (am h).2.2.2.2.2.2] at hq
                  have m1 : (x.mac = [] ∧ (0 : Int) = 0) = False := eq_false fun q => m0 (by rw [q.1]; exact q.2)
                  simp at m1
                  by_cases a3 : x.ip.length = 4
                  · simp [g1, he, a0, a1, a3, a4, a5, hp, m0, m1, undef]
                    try exact hq
                  · have a3' : x.ip.length = 16 := a2.resolve_left a3
                    simp [g1, he, a0, a1, a3', a4, a5, hp, m0, m1, undef]
                    try exact hq
            · rw [no _ a5 fun h => (am h).2.2.2.2.1] at hq
              by_cases a3 : x.ip.length = 4
              · simp [g1, he, a0, a1, a3, a4, a5, undef]
                try exact hq
              · have a3' : x.ip.length = 16 := a2.resolve_left a3
                simp [g1, he, a0, a1, a3', a4, a5, undef]
                try exact hq
          · rw [no _ a4 fun h => (am h).2.2.2.1] at hq
            by_cases a3 : x.ip.length = 4
            · simp [g1, he, a0, a1, a3, a4, undef]
              try exact hq
            · have a3' : x.ip.length = 16 := a2.resolve_left a3
              simp [g1, he, a0, a1, a3', a4, undef]
              try exact hq
        · rw [no _ a2 fun h => (am h).2.2.1] at hq
          have a3 : ¬ (x.ip.length : Int) = 4 := by omega
          have a3' : ¬ (x.ip.length : Int) = 16 := by omega
          simp [g1, he, a0, a1, a3, a3', undef]
          try exact hq
      · rw [no _ a1 fun h => (am h).2.1] at hq
        simp [g1, he, a0, a1, undef]
        try exact hq
    · rw [no _ a0 fun h => (am h).1] at hq
      simp [g1, he, a0, undef]
      try exact hq
theorem raenc_ok (A : AHeap) (x : Ad) (hw : x.W) (Q : Value → AHeap → Prop) (hq : ∀ A', Ext NoB A A' → Q (resE x.enc) A') : wF T (.func (.func 71) #[] #[]) [.agg ⟨x.cells⟩] A Q := by
  refine wF_func (first := []) (captured := []) t71 ⟨rfl, by decide⟩ ?_
  dsimp only [c71]
  have hc := Ad.cells_eq x
  simp [hc]
  generalize hA1 : A.alloc _ = A1
  obtain ⟨g1, e1, z1⟩ := alloc_facts hA1
  simp [g1]
  rw [← hc]
  refine rmay12_ok A1 x _ fun A2 e2 => ?_
  have g2 := e2.get g1 id
  have e12 := e1.trans e2
  cases hm : x.may
  · have := hq A2 e12
    rw [Ad.enc, hm] at this
    simp
    exact this
  have hq' : ∀ A', Ext NoB A A' → Q (.tuple ⟨[.string ⟨⟨x.body⟩⟩, .int .i64 0]⟩) A' := fun A' e => by
    have := hq A' e
    rwa [Ad.enc, hm] at this
  have hm' := hm
  simp only [Ad.may, Bool.and_eq_true, Bool.or_eq_true, decide_eq_true_eq] at hm'
  obtain ⟨⟨⟨⟨h1, h2⟩, h3⟩, h4⟩, h5⟩ := hm'
  obtain ⟨n, hn, hn2⟩ : ∃ n : Nat, x.id = n ∧ n < 256 := ⟨x.id.toNat, by omega, by omega⟩
  obtain ⟨p, hp, hp2⟩ : ∃ n : Nat, x.port = n ∧ n < 65536 := ⟨x.port.toNat, by omega, by omega⟩
  have hnw : IntKind.u64.wrap (n : Int) = n := IntWalk.u64_in _ (by omega)
  have hpw : IntKind.u64.wrap (p : Int) = p := IntWalk.u64_in _ (by omega)
  have hml : x.mac.length ≤ 8 := by rw [h5]; split <;> omega
  have hil : x.ip.length ≤ 16 := by omega
  have o1 : ¬ (9223372036854775807 : Int) < 1 + 1 + (x.ip.length : Int) := by omega
  have o1' : ¬ (9223372036854775807 : Int) < 2 + (x.ip.length : Int) := by omega
  have o2 : ¬ (9223372036854775807 : Int) < 1 + (1 + ((x.ip.length : Int) + 2)) + (x.mac.length : Int) := by omega
  have o4 : ¬ (9223372036854775807 : Int) < 1 + ((x.ip.length : Int) + (1 + (x.mac.length : Int))) := by omega
  have o5 : ¬ (9223372036854775807 : Int) < (x.ip.length : Int) + 2 + (x.mac.length : Int) := by omega
  have o6 : ¬ (9223372036854775807 : Int) < 1 + ((x.ip.length : Int) + (3 + (x.mac.length : Int))) := by omega
  have o3 : ¬ (9223372036854775807 : Int) < 1 + (1 + (x.ip.length : Int)) + (x.mac.length : Int) := by omega
  cases he : x.echo <;> cases hh : x.hasPort
  · have hb : x.body = [48] ++ (be n 1 ++ (x.ip ++ x.mac)) := by simp [Ad.body, he, hh, hn, hp, be]
    rw [hb] at hq'
    simp [g2, he]
    refine wC_opsD_chk ?_
    simp [g2, hn, hnw]
    refine rput_ok _ [48] n 1 (by decide) (by omega) (by simp) _ fun A3 e3 => ?_
    have g3 := e3.get g2 id
    simp [g3, be_len, o1, o1']
    refine wE_intro ?_ ?_
    · simp only [List.all_cons, List.all_nil, chkOk, List.nil_append, List.cons_append, List.getElem?_cons_succ, List.getElem?_cons_zero]
      simp [Bx, g2, g3, vbeq, hn]
    · simp [g3, hh, be_len, o3, o4, o5, show ¬ (9223372036854775807 : Int) < (x.ip.length : Int) + 1 + 1 + (x.mac.length : Int) by omega]
      exact hq' A3 (e12.trans e3)
  · have hb : x.body = [48] ++ (be n 1 ++ (x.ip ++ (be p 2 ++ x.mac))) := by simp [Ad.body, he, hh, hn, hp, be]
    rw [hb] at hq'
    simp [g2, he]
    refine wC_opsD_chk ?_
    simp [g2, hn, hnw]
    refine rput_ok _ [48] n 1 (by decide) (by omega) (by simp) _ fun A3 e3 => ?_
    have g3 := e3.get g2 id
    simp [g3, be_len, o1, o1']
    refine wE_intro ?_ ?_
    · simp only [List.all_cons, List.all_nil, chkOk, List.nil_append, List.cons_append, List.getElem?_cons_succ, List.getElem?_cons_zero]
      simp [Bx, g2, g3, vbeq, hn]
    · simp [g3, hh, hp, hpw]
      refine rput_ok _ _ p 2 (by decide) (by omega) (by simp [be_len]; omega) _ fun A4 e4 => ?_
      have g4 := e4.get g3 id
      simp [g4, be_len, show ¬ (9223372036854775807 : Int) < 1 + (1 + ((x.ip.length : Int) + 2)) + (x.mac.length : Int) by omega, show ¬ (9223372036854775807 : Int) < (x.ip.length : Int) + 2 + 1 + 1 + (x.mac.length : Int) by omega, o2, o6]
      exact hq' A4 ((e12.trans e3).trans e4)
  · have hb : x.body = [49] ++ (be n 1 ++ (x.ip ++ x.mac)) := by simp [Ad.body, he, hh, hn, hp, be]
    rw [hb] at hq'
    simp [g2, he]
    refine wC_opsD_chk ?_
    simp [g2, hn, hnw]
    refine rput_ok _ [49] n 1 (by decide) (by omega) (by simp) _ fun A3 e3 => ?_
    have g3 := e3.get g2 id
    simp [g3, be_len, o1, o1']
    refine wE_intro ?_ ?_
    · simp only [List.all_cons, List.all_nil, chkOk, List.nil_append, List.cons_append, List.getElem?_cons_succ, List.getElem?_cons_zero]
      simp [Bx, g2, g3, vbeq, hn]
    · simp [g3, hh, be_len, o3, o4, o5, show ¬ (9223372036854775807 : Int) < (x.ip.length : Int) + 1 + 1 + (x.mac.length : Int) by omega]
      exact hq' A3 (e12.trans e3)
  · have hb : x.body = [49] ++ (be n 1 ++ (x.ip ++ (be p 2 ++ x.mac))) := by simp [Ad.body, he, hh, hn, hp, be]
    rw [hb] at hq'
    simp [g2, he]
    refine wC_opsD_chk ?_
    simp [g2, hn, hnw]
    refine rput_ok _ [49] n 1 (by decide) (by omega) (by simp) _ fun A3 e3 => ?_
    have g3 := e3.get g2 id
    simp [g3, be_len, o1, o1']
    refine wE_intro ?_ ?_
    · simp only [List.all_cons, List.all_nil, chkOk, List.nil_append, List.cons_append, List.getElem?_cons_succ, List.getElem?_cons_zero]
      simp [Bx, g2, g3, vbeq, hn]
    · simp [g3, hh, hp, hpw]
      refine rput_ok _ _ p 2 (by decide) (by omega) (by simp [be_len]; omega) _ fun A4 e4 => ?_
      have g4 := e4.get g3 id
      simp [g4, be_len, show ¬ (9223372036854775807 : Int) < 1 + (1 + ((x.ip.length : Int) + 2)) + (x.mac.length : Int) by omega, show ¬ (9223372036854775807 : Int) < (x.ip.length : Int) + 2 + 1 + 1 + (x.mac.length : Int) by omega, o2, o6]
      exact hq' A4 ((e12.trans e3).trans e4)
theorem rrenc_ok (A : AHeap) (l : List UInt8) (hl : l.length < 200000000000000) (Q : Value → AHeap → Prop) (hq : ∀ A', Ext NoB A A' → Q (resE (remE l)) A') : wF T (.func (.func 72) #[] #[]) [.agg ⟨[.string ⟨⟨l⟩⟩]⟩] A Q := by
  refine wF_func (first := []) (captured := []) t72 ⟨rfl, by decide⟩ ?_
  dsimp only [c72]
  simp
  generalize hA1 : A.alloc _ = A1
  obtain ⟨g1, e1, z1⟩ := alloc_facts hA1
  have hq := hq A1 e1
  by_cases h0 : (l.length : Int) < 1
  · have h0' : l = [] := List.length_eq_zero_iff.1 (by omega)
    rw [remE, if_neg (by omega)] at hq
    simp [g1, h0, h0', undef]
    exact hq
  · by_cases h37 : 37 < (l.length : Int)
    · rw [remE, if_neg (by omega)] at hq
      simp [g1, h0, show ¬ l = [] from fun q => h0 (by rw [q]; decide), h37, show 37 < l.length by omega]
      exact hq
    · rw [remE, if_pos (by omega)] at hq
      simp [g1, h0, show ¬ l = [] from fun q => h0 (by rw [q]; decide), h37, show ¬ 37 < l.length by omega, show ¬ (9223372036854775807 : Int) < 1 + (l.length : Int) by omega]
      exact hq
theorem rpenc_ok (A : AHeap) (b : Bool) (Q : Value → AHeap → Prop) (hq : ∀ A', Ext NoB A A' → Q (.string ⟨⟨prioE b⟩⟩) A') : wF T (.func (.func 73) #[] #[]) [.agg ⟨[.bool b]⟩] A Q := by
  refine wF_func (first := []) (captured := []) t73 ⟨rfl, by decide⟩ ?_
  dsimp only [c73]
  simp
  generalize hA1 : A.alloc _ = A1
  obtain ⟨g1, e1, z1⟩ := alloc_facts hA1
  cases b <;> simp [g1] <;> exact hq A1 e1
theorem rfenc_ok (A : AHeap) (n : Nat) (Q : Value → AHeap → Prop) (hq : ∀ A', Ext NoB A A' → Q (.string ⟨⟨bigE 6 n⟩⟩) A') : wF T (.func (.func 74) #[] #[]) [.agg ⟨[.int .u64 (n : Nat)]⟩] A Q := by
  refine wF_func (first := []) (captured := []) t74 ⟨rfl, by decide⟩ ?_
  dsimp only [c74]
  simp
  generalize hA1 : A.alloc _ = A1
  obtain ⟨g1, e1, z1⟩ := alloc_facts hA1
  simp [g1]
  refine laid_ok A1 n 8 (by decide) _ fun A2 e2 => ?_
  simp [be_len]
  exact hq A2 (e1.trans e2)
theorem rkenc_ok (A : AHeap) (n : Nat) (Q : Value → AHeap → Prop) (hq : ∀ A', Ext NoB A A' → Q (.string ⟨⟨bigE 7 n⟩⟩) A') : wF T (.func (.func 75) #[] #[]) [.agg ⟨[.int .u64 (n : Nat)]⟩] A Q := by
  refine wF_func (first := []) (captured := []) t75 ⟨rfl, by decide⟩ ?_
  dsimp only [c75]
  simp
  generalize hA1 : A.alloc _ = A1
  obtain ⟨g1, e1, z1⟩ := alloc_facts hA1
  simp [g1]
  refine laid_ok A1 n 8 (by decide) _ fun A2 e2 => ?_
  simp [be_len]
  exact hq A2 (e1.trans e2)
theorem rtenc_ok (A : AHeap) (f r : Int) (Q : Value → AHeap → Prop) (hq : ∀ A', Ext NoB A A' → Q (resE (rstE f r)) A') : wF T (.func (.func 76) #[] #[]) [.agg ⟨[.int .i64 f, .int .i64 r]⟩] A Q := by
  refine wF_func (first := []) (captured := []) t76 ⟨rfl, by decide⟩ ?_
  dsimp only [c76]
  simp
  generalize hA1 : A.alloc _ = A1
  obtain ⟨g1, e1, z1⟩ := alloc_facts hA1
  by_cases a0 : f < 0
  · have := hq A1 e1
    rw [rstE, if_neg (by omega)] at this
    simp [g1, a0]
    exact this
  by_cases a1 : 15 < f
  · have := hq A1 e1
    rw [rstE, if_neg (by omega)] at this
    simp [g1, a0, a1]
    exact this
  by_cases a2 : r < 0
  · have := hq A1 e1
    rw [rstE, if_neg (by omega)] at this
    simp [g1, a0, a1, a2]
    exact this
  by_cases a3 : 255 < r
  · have := hq A1 e1
    rw [rstE, if_neg (by omega)] at this
    simp [g1, a0, a1, a2, a3]
    exact this
  obtain ⟨n, rfl, hn⟩ : ∃ n : Nat, f = n ∧ n < 16 := ⟨f.toNat, by omega, by omega⟩
  obtain ⟨m, rfl, hm⟩ : ∃ m : Nat, r = m ∧ m < 256 := ⟨r.toNat, by omega, by omega⟩
  have hb : be (32768 + n * 256 + m) 2 = be (128 + n) 1 ++ be m 1 := by
    simp only [be, Nat.pow_one, Nat.pow_zero, Nat.div_one, List.cons_append, List.nil_append]
    rw [show (32768 + n * 256 + m) / 256 % 256 = (128 + n) % 256 by omega, show (32768 + n * 256 + m) % 256 = m % 256 by omega]
  have hq' : ∀ A', Ext NoB A A' → Q (.tuple ⟨[.string ⟨⟨be (128 + n) 1 ++ be m 1⟩⟩, .int .i64 0]⟩) A' := fun A' e => by
    have := hq A' e
    rwa [rstE, if_pos (by omega), Int.toNat_natCast, Int.toNat_natCast, hb] at this
  obtain ⟨k, hk⟩ : ∃ k, k = 128 + n := ⟨_, rfl⟩
  rw [← hk] at hq'
  have w1 : IntKind.i64.wrap (128 + (n : Int)) = (k : Int) := by rw [IntWalk.i64_in _ (by omega)]; omega
  have w2 : IntKind.u64.wrap (k : Int) = k := IntWalk.u64_in _ (by omega)
  have w3 : IntKind.u64.wrap (m : Int) = m := IntWalk.u64_in _ (by omega)
  simp [g1, a0, a1, a2, a3, show ¬ (15 : Int) < (n : Int) by omega, show ¬ (255 : Int) < (m : Int) by omega, show ¬ 15 < n by omega, show ¬ 255 < m by omega]
  refine wC_opsD_chk ?_
  simp [g1, w1, w2]
  refine laid_ok A1 k 1 (by decide) _ fun A2 e2 => ?_
  have g2 := e2.get g1 id
  simp [g2, w3]
  refine laid_ok A2 m 1 (by decide) _ fun A3 e3 => ?_
  simp [be_len]
  refine wE_intro ?_ ?_
  · simp only [List.all_cons, List.all_nil, chkOk, List.nil_append, List.cons_append, List.getElem?_cons_succ, List.getElem?_cons_zero]
    simp [Bx, g1, g2, vbeq]
  · simp
    exact hq' A3 ((e1.trans e2).trans e3)
end Go.Proofs.YtigknpfjhegkgaaGreat

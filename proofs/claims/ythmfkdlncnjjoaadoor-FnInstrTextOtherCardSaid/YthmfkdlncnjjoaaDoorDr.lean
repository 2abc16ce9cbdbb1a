/- The reader of draws: l6Open and pick. What is told of a reader: its bytes, and that its place is at most N. -/
import Derived.Test.YthmfkdlncnjjoaaDoorBa
import Derived.Laws.BitsAllLaws
import Derived.IntWalk
namespace Go.Proofs.YthmfkdlncnjjoaaDoor
open Go.RowKit
set_option linter.unusedSimpArgs false
/-- The bytes bs lie at A, in a block below B. -/
def By (w : World) (B : Nat) (A : Option Addr) (bs : List Int) : Prop := bs.length ≤ 2000 ∧ (∀ x ∈ bs, 0 ≤ x ∧ x < 256) ∧ (0 < bs.length → ∃ b off, A = some ⟨b, off, none⟩ ∧ b < B ∧ ∀ i, i < bs.length → w.cell? ⟨b, off + i, none⟩ = some (.int .u8 (bs.getD i 0)))
def Rd (B : Nat) (w : World) (g N : Nat) : Prop := ∃ A bs c, ∃ q : Nat, w.heap[g]? = some (.cells #[.slice A bs.length c, .int .i64 (q : Int)] 63 (0, 0)) ∧ q ≤ N ∧ By w B A bs ∧ B ≤ g ∧ B ≤ w.heap.size
/-- Only block g has changed, and new blocks may have come. -/
structure Only (g : Nat) (w w' : World) : Prop where
  os : w'.os = w.os
  tape : w'.tape = w.tape
  output : w'.output = w.output
  size : w.heap.size ≤ w'.heap.size
  block : ∀ k, k < w.heap.size → k ≠ g → w'.heap[k]? = w.heap[k]?
theorem Only.refl (g : Nat) (w : World) : Only g w w := ⟨rfl, rfl, rfl, Nat.le_refl _, fun _ _ _ => rfl⟩
theorem Only.trans {g : Nat} {a b c : World} (h : Only g a b) (k : Only g b c) : Only g a c :=
  ⟨k.os.trans h.os, k.tape.trans h.tape, k.output.trans h.output, Nat.le_trans h.size k.size, fun i hi hn => (k.block i (Nat.lt_of_lt_of_le hi h.size) hn).trans (h.block i hi hn)⟩
theorem Only.of_below {g : Nat} {a b : World} (h : Below a.heap.size a b) : Only g a b := ⟨h.os, h.tape, h.output, h.size, fun k hk _ => h.block k hk⟩
theorem Only.below {g : Nat} {w a b : World} (h : Only g a b) (hb : Below w.heap.size w a) (hg : w.heap.size ≤ g) : Below w.heap.size w b :=
  ⟨h.os.trans hb.os, h.tape.trans hb.tape, h.output.trans hb.output, Nat.le_trans hb.size h.size, fun k hk => (h.block k (Nat.lt_of_lt_of_le hk hb.size) (by omega)).trans (hb.block k hk)⟩
theorem Only.set {g : Nat} {a b : World} (h : Only g a b) (j : Nat) (v : Value) : Only g a (b.setCell ⟨g, j, none⟩ v) :=
  h.trans ⟨rfl, rfl, rfl, by simp [World.setCell], fun k _ hn => Below.heap_setCell _ _ _ _ hn⟩
theorem Only.drewN {g : Nat} {a b : World} (h : Only g a b) (n : Nat) : Only g a (b.drewN n) := h.trans (Only.of_below (bl_drewN (Below.refl _ _) n))
theorem Only.alloc {g : Nat} {a b : World} (h : Only g a b) (o : Obj) : Only g a (b.alloc o) := h.trans (Only.of_below (bl_alloc (Below.refl _ _) o))
theorem By.of {w w' : World} {B : Nat} {A : Option Addr} {bs : List Int} (h : By w B A bs) (ho : ∀ k, k < B → w'.heap[k]? = w.heap[k]?) : By w' B A bs := by
  refine ⟨h.1, h.2.1, fun hn => ?_⟩
  obtain ⟨b, off, e, hb, hc⟩ := h.2.2 hn
  refine ⟨b, off, e, hb, fun i hi => ?_⟩
  rw [← hc i hi]
  simp [World.cell?, ho b hb]
theorem Rd.lt {B : Nat} {w : World} {g N : Nat} (h : Rd B w g N) : g < w.heap.size := by
  obtain ⟨A, bs, c, q, hg, hq, hB⟩ := h
  rcases Nat.lt_or_ge g w.heap.size with h | h
  · exact h
  · rw [Array.getElem?_eq_none h] at hg; cases hg
theorem Rd.of {B : Nat} {w w' : World} {g N : Nat} (h : Rd B w g N) (hs : w.heap.size ≤ w'.heap.size) (hb : ∀ k, k < w.heap.size → (k < B ∨ k = g) → w'.heap[k]? = w.heap[k]?) : Rd B w' g N := by
  have hlt := h.lt
  obtain ⟨A, bs, c, q, hg, hq, hB, h1, h2⟩ := h
  exact ⟨A, bs, c, q, (hb g hlt (.inr rfl)).trans hg, hq, hB.of fun k hk => hb k (by omega) (.inl hk), h1, by omega⟩
theorem Rd.below {B : Nat} {w w' : World} {g N : Nat} (h : Rd B w g N) (hb : Below w.heap.size w w') : Rd B w' g N := h.of hb.size fun k hk _ => hb.block k hk
theorem Rd.alloc {B : Nat} {w : World} {g N : Nat} (h : Rd B w g N) (o : Obj) : Rd B (w.alloc o) g N := h.below (bl_alloc (Below.refl _ _) o)
theorem Rd.drewN {B : Nat} {w : World} {g N : Nat} (h : Rd B w g N) (n : Nat) : Rd B (w.drewN n) g N := h.below (bl_drewN (Below.refl _ _) n)
theorem Rd.drew {B : Nat} {w : World} {g N : Nat} (h : Rd B w g N) : Rd B w.drew g N := h.drewN 1
theorem Rd.set {B : Nat} {w : World} {g N : Nat} (h : Rd B w g N) {p : Addr} (hp : p.block ≠ g) (hb : B ≤ p.block) (v : Value) : Rd B (w.setCell p v) g N :=
  h.of (by simp [World.setCell]) fun k _ hk => Below.heap_setCell _ _ _ _ (by omega)
theorem Only.cell {g : Nat} {W w1 : World} (h : Only g W w1) : (∀ b o, b < W.heap.size → b ≠ g → w1.cell? ⟨b, o, none⟩ = W.cell? ⟨b, o, none⟩) ∧ (∀ b o, b < W.heap.size → b ≠ g → w1.frozen? ⟨b, o, none⟩ = W.frozen? ⟨b, o, none⟩) :=
  ⟨fun b o h1 h2 => by simp [World.cell?, h.block b h1 h2], fun b o h1 h2 => by simp [World.frozen?, h.block b h1 h2]⟩
theorem Only.keep {g : Nat} {a c : World} (h : Only g a c) {b : Nat} {o : Obj} (hb : a.heap[b]? = some o) (hne : b ≠ g) : c.heap[b]? = some o := by
  refine (h.block b ?_ hne).trans hb
  rcases Nat.lt_or_ge b a.heap.size with h | h
  · exact h
  · rw [Array.getElem?_eq_none h] at hb; cases hb
theorem lt_blk {w : World} {b : Nat} {o : Obj} (h : w.heap[b]? = some o) : b < w.heap.size := (Array.getElem?_eq_some_iff.1 h).1
theorem bl_keep {a c : World} (h : Below a.heap.size a c) {b : Nat} {o : Obj} (hb : a.heap[b]? = some o) : c.heap[b]? = some o := (h.block b (lt_blk hb)).trans hb
theorem new_blk (w : World) (o : Obj) : (w.alloc o).heap[w.heap.size]? = some o := by
  show (w.heap.push _)[w.heap.size]? = _
  simp
theorem blk_alloc {w : World} {b : Nat} {o : Obj} (hb : w.heap[b]? = some o) (o' : Obj) : (w.alloc o').heap[b]? = some o := (Only.of_below (g := b + 1) (bl_alloc (Below.refl _ _) o')).keep hb (by omega)
theorem five {w : World} {b T : Nat} {a0 a1 a2 a3 a4 : Value} (h : w.heap[b]? = some (.cells #[a0, a1, a2, a3, a4] T (0, 0))) :
    w.cell? ⟨b, 0, none⟩ = some a0 ∧ w.cell? ⟨b, 1, none⟩ = some a1 ∧ w.cell? ⟨b, 2, none⟩ = some a2 ∧ w.cell? ⟨b, 3, none⟩ = some a3 ∧ w.cell? ⟨b, 4, none⟩ = some a4 := by
  refine ⟨?_, ?_, ?_, ?_, ?_⟩ <;> simp [World.cell?, h]
theorem unfrozen {w : World} {b T : Nat} {c : Array Value} (h : w.heap[b]? = some (.cells c T (0, 0))) (o : Nat) : w.frozen? ⟨b, o, none⟩ = false := by simp [World.frozen?, h]
theorem Only.setNew {g : Nat} {a b : World} (h : Only g a b) {p : Addr} (hp : a.heap.size ≤ p.block) (v : Value) : Only g a (b.setCell p v) :=
  ⟨h.os, h.tape, h.output, by simpa [World.setCell] using h.size, fun k hk hn => (Below.heap_setCell b p v k (by omega)).trans (h.block k hk hn)⟩
theorem Only.drew {g : Nat} {a b : World} (h : Only g a b) : Only g a b.drew := h.drewN 1
theorem Only.tr {g : Nat} {a b c : World} (k : Only g b c) (h : Only g a b) : Only g a c := h.trans k
theorem Rd.mono {B : Nat} {w : World} {g N N' : Nat} (h : Rd B w g N) (hn : N ≤ N') : Rd B w g N' := by
  obtain ⟨A, bs, c, q, hg, hq, hB⟩ := h
  exact ⟨A, bs, c, q, hg, Nat.le_trans hq hn, hB⟩
def Pk (B g N : Nat) (n : Int) (w : World) (e : Ending) (w' : World) : Prop := ∃ v : Int, e = .returned (.int .i64 v) ∧ 0 ≤ v ∧ (1 ≤ n → v < n) ∧ (n < 1 → v = 0) ∧ Rd B w' g (N + 1) ∧ Only g w w'
theorem Rd.put {B : Nat} {w : World} {g N q c : Nat} {A : Option Addr} {bs : List Int} (hg : w.heap[g]? = some (.cells #[.slice A bs.length c, .int .i64 (q : Int)] 63 (0, 0))) (hq : q ≤ N) (hB : By w B A bs) (h1 : B ≤ g) (h2 : B ≤ w.heap.size) : Rd B (w.setCell ⟨g, 1, none⟩ (.int .i64 ((q : Int) + 1))) g (N + 1) := by
  refine ⟨A, bs, c, q + 1, ?_, by omega, hB.of fun k hk => Below.heap_setCell w ⟨g, 1, none⟩ _ k (show k ≠ g by omega), h1, by simpa [World.setCell] using h2⟩
  simp [World.setCell, Array.getElem?_modify, hg]
theorem By.put {w : World} {g : Nat} {bs : List Int} {b off : Nat} (hb : b ≠ g) (hc : ∀ i, i < bs.length → w.cell? ⟨b, off + i, none⟩ = some (.int .u8 (bs.getD i 0))) (v : Value) (j : Nat) (hj : j < bs.length) : (w.setCell ⟨g, 1, none⟩ v).cell? ⟨b, off + j, none⟩ = some (.int .u8 (bs.getD j 0)) := by
  rw [← hc j hj]
  simp [World.cell?, Below.heap_setCell w ⟨g, 1, none⟩ v b hb]
theorem pk_end {B : Nat} {w W : World} {g N q c k : Nat} {A : Option Addr} {bs : List Int} {n v : Int} (hg : w.heap[g]? = some (.cells #[.slice A bs.length c, .int .i64 (q : Int)] 63 (0, 0))) (hq : q ≤ N) (hB : By w B A bs ∧ B ≤ g ∧ B ≤ w.heap.size)
    (hW : W = (w.setCell ⟨g, 1, none⟩ (.int .i64 ((q : Int) + 1))).drewN k) (h0 : 0 ≤ v) (h1 : 1 ≤ n → v < n) (h2 : n < 1 → v = 0) : Pk B g N n w (.returned (.int .i64 v)) W := by
  subst hW
  exact ⟨v, rfl, h0, h1, h2, (Rd.put hg hq hB.1 hB.2.1 hB.2.2).below (bl_drewN (Below.refl _ _) k), ((Only.refl g w).set 1 _).drewN k⟩
theorem tmod_bd {x n : Int} (hx : 0 ≤ x) (hn : 1 ≤ n) : 0 ≤ x.tmod n ∧ x.tmod n < n := by
  rw [Int.tmod_eq_emod_of_nonneg hx]
  exact ⟨Int.emod_nonneg _ (by omega), Int.emod_lt_of_pos _ (by omega)⟩
theorem xor_nonneg (x y : Int) (h0 : 0 ≤ x) (h1 : x < 2 ^ 62) (h2 : 0 ≤ y) (h3 : y < 2 ^ 62) : 0 ≤ bits .xor .i64 x y := by
  obtain ⟨a, rfl⟩ := Int.eq_ofNat_of_zero_le h0
  obtain ⟨b, rfl⟩ := Int.eq_ofNat_of_zero_le h2
  have ha : a < 2 ^ 62 := by exact_mod_cast h1
  have hb : b < 2 ^ 62 := by exact_mod_cast h3
  have hp : (2 : Nat) ^ 62 ≤ 2 ^ IntKind.i64.bits := by decide
  have ha' : a % 2 ^ IntKind.i64.bits = a := Nat.mod_eq_of_lt (Nat.lt_of_lt_of_le ha hp)
  have hb' : b % 2 ^ IntKind.i64.bits = b := Nat.mod_eq_of_lt (Nat.lt_of_lt_of_le hb hp)
  have hx : a ^^^ b < 2 ^ 62 := Nat.xor_lt_two_pow ha hb
  simp only [bits, BitVec.ofInt_natCast, BitVec.toNat_xor, BitVec.toNat_ofNat, ha', hb']
  rw [IntKind.wrap_i64]
  omega
theorem mix_nonneg (y z q d : Int) (hy : 0 ≤ y) (hy1 : y < 256) (hz : 0 ≤ z) (hz1 : z < 256) (hq : 0 ≤ q) (hq1 : q ≤ 1000000000) (hd : 0 ≤ d) (hd1 : d ≤ q) :
    0 ≤ bits .xor .i64 (wrap64 (wrap64 (wrap64 (wrap64 y * 131) + wrap64 (wrap64 z * 1117)) + q * 29) + d * 53) (wrap64 ((wrap64 (wrap64 (wrap64 (wrap64 y * 131) + wrap64 (wrap64 z * 1117)) + q * 29) + d * 53).tdiv 64)) ∧
    0 ≤ bits .xor .i64 (wrap64 (wrap64 (wrap64 (wrap64 (wrap64 y * 131) + wrap64 (wrap64 z * 1117)) + q * 29) + d * 53)) (wrap64 ((wrap64 (wrap64 (wrap64 (wrap64 (wrap64 y * 131) + wrap64 (wrap64 z * 1117)) + q * 29) + d * 53)).tdiv 64)) := by
  have e : wrap64 (wrap64 (wrap64 (wrap64 y * 131) + wrap64 (wrap64 z * 1117)) + q * 29) + d * 53 = y * 131 + z * 1117 + q * 29 + d * 53 := by unfold wrap64; omega
  have e' : wrap64 (y * 131 + z * 1117 + q * 29 + d * 53) = y * 131 + z * 1117 + q * 29 + d * 53 := by unfold wrap64; omega
  rw [e, e']
  have h0 : 0 ≤ y * 131 + z * 1117 + q * 29 + d * 53 := by omega
  have h1 : y * 131 + z * 1117 + q * 29 + d * 53 < 1000000000000 := by omega
  generalize y * 131 + z * 1117 + q * 29 + d * 53 = X at h0 h1
  have h2 : wrap64 (X.tdiv 64) = X / 64 := by rw [Int.tdiv_eq_ediv_of_nonneg h0]; unfold wrap64; omega
  have h3 := xor_nonneg X (X / 64) h0 (by omega) (by omega) (by omega)
  rw [h2]
  exact ⟨h3, h3⟩
set_option maxHeartbeats 400000 in
theorem pick_any (B g N : Nat) (n : Int) (w : World) (h : Rd B w g N) (hN : N ≤ 1000000000) :
    Calls Tryd.prog 46 #[.pointer (some ⟨g, 0, none⟩), .int .i64 n] w (Pk B g N n w) := by
  obtain ⟨A, bs, c, q, hg, hq, hB⟩ := h
  have c0 : w.cell? ⟨g, 0, none⟩ = some (.slice A bs.length c) := by simp [World.cell?, hg]
  have c1 : w.cell? ⟨g, 1, none⟩ = some (.int .i64 (q : Int)) := by simp [World.cell?, hg]
  have f1 : w.frozen? ⟨g, 1, none⟩ = false := by simp [World.frozen?, hg]
  have HG := Lib.hid hg
  have HB := Lib.hid hB
  clear hg hB
  rcases Nat.eq_zero_or_pos bs.length with hl | hl
  · go_enter Tryd.func46, Tryd.ntmps46
    go_wp2
    all_goals
      go_ret
      exact pk_end (k := 0) HG.out hq HB.out rfl (by omega) (by omega) (by omega)
  · obtain ⟨b, off, rfl, hlt, hc⟩ := HB.out.1.2.2 hl
    have hbg : b ≠ g := by have := HB.out.2.1; omega
    have hc' := fun v j hj => By.put hbg hc v j hj
    clear hc
    have HN : ∀ i, i < bs.length → 0 ≤ bs.getD i 0 ∧ bs.getD i 0 < 256 := fun i hi => HB.out.1.2.1 _ (by rw [List.getD_eq_getElem?_getD, List.getElem?_eq_getElem hi]; exact List.getElem_mem hi)
    have HN := Lib.hid HN
    have hlen := HB.out.1.1
    have tm1 : (q : Int).tmod bs.length = ((q % bs.length : Nat) : Int) := by rw [Int.tmod_eq_emod_of_nonneg (by omega)]; rfl
    have tm2' : ((q : Int) * 7 + 3).tmod bs.length = (((q * 7 + 3) % bs.length : Nat) : Int) := by rw [Int.tmod_eq_emod_of_nonneg (by omega)]; rfl
    have td : (q : Int).tdiv bs.length = ((q / bs.length : Nat) : Int) := by rw [Int.tdiv_eq_ediv_of_nonneg (by omega)]; rfl
    have i1 : q % bs.length < bs.length := Nat.mod_lt _ hl
    have i2 : (q * 7 + 3) % bs.length < bs.length := Nat.mod_lt _ hl
    have d1 : q / bs.length ≤ q := Nat.div_le_self _ _
    generalize hq1 : q % bs.length = u1 at *
    generalize hq2 : (q * 7 + 3) % bs.length = u2 at *
    generalize hq3 : q / bs.length = u3 at *
    clear hq1 hq2 hq3
    have w1 : IntKind.i64.wrap ((q : Int) * 7) = (q : Int) * 7 := IntWalk.i64_in _ (by omega)
    have w2 : IntKind.i64.wrap ((q : Int) * 7 + 3) = (q : Int) * 7 + 3 := IntWalk.i64_in _ (by omega)
    by_cases hn : n < 1
    · go_enter Tryd.func46, Tryd.ntmps46
      go_wp2
      go_ret
      exact pk_end (k := 0) HG.out hq HB.out rfl (by omega) (by omega) (by omega)
    · have z : ((bs.length : Int) == 0) = false := by rw [beq_eq_false_iff_ne]; omega
      by_cases hk : q < bs.length
      · go_enter Tryd.func46, Tryd.ntmps46
        go_wp2
        go_ret
        have hb := HN.out q hk
        rw [List.getD_eq_getElem?_getD, List.getElem?_eq_getElem hk] at hb
        have e : wrap64 bs[q] = bs[q] := by unfold wrap64; simp only [Option.getD_some] at hb; omega
        have := tmod_bd (x := wrap64 bs[q]) (n := n) (by rw [e]; exact hb.1) (by omega)
        exact pk_end (k := 0) HG.out hq HB.out rfl this.1 (fun _ => this.2) (by omega)
      · go_enter Tryd.func46, Tryd.ntmps46
        go_wp2
        go_quiet (fail)
        go_wp2
        go_ret
        have gb : ∀ i, (hi : i < bs.length) → 0 ≤ bs[i] ∧ bs[i] < 256 := fun i hi => by
          have hb := HN.out i hi
          rw [List.getD_eq_getElem?_getD, List.getElem?_eq_getElem hi] at hb
          exact hb
        have km := mix_nonneg bs[u1] bs[u2] q u3 (gb u1 i1).1 (gb u1 i1).2 (gb u2 i2).1 (gb u2 i2).2 (by omega) (by omega) (by omega) (by omega)
        refine pk_end (k := nq) HG.out hq HB.out rfl ?_ ?_ ?_
        · first | exact (tmod_bd km.1 (by omega)).1 | exact (tmod_bd km.2 (by omega)).1
        · intro _
          first | exact (tmod_bd km.1 (by omega)).2 | exact (tmod_bd km.2 (by omega)).2
        · intro _
          omega
/-- A slice of bytes that is read: none of its cells in a block from B on. -/
def Bytes (w : World) (A : Option Addr) (n : Nat) (bs : List Int) : Prop := bs.length = n ∧ (∀ x ∈ bs, 0 ≤ x ∧ x < 256) ∧ (0 < n → ∃ b off, A = some ⟨b, off, none⟩ ∧ b < w.heap.size ∧ ∀ i, i < n → w.cell? ⟨b, off + i, none⟩ = some (.int .u8 (bs.getD i 0)))
theorem Bytes.below {w w' : World} {A : Option Addr} {n : Nat} {bs : List Int} (h : Bytes w A n bs) (hb : Below w.heap.size w w') : Bytes w' A n bs := by
  refine ⟨h.1, h.2.1, fun hn => ?_⟩
  obtain ⟨b, off, e, hlt, hc⟩ := h.2.2 hn
  refine ⟨b, off, e, Nat.lt_of_lt_of_le hlt hb.size, fun i hi => ?_⟩
  rw [← hc i hi]
  simp [World.cell?, hb.block b hlt]
theorem Bytes.alloc {w : World} {A : Option Addr} {n : Nat} {bs : List Int} (h : Bytes w A n bs) (o : Obj) : Bytes (w.alloc o) A n bs := h.below (bl_alloc (Below.refl _ _) o)
def Op0 (w : World) (e : Ending) (w' : World) : Prop := ∃ g, e = .returned (.pointer (some ⟨g, 0, none⟩)) ∧ w.heap.size ≤ g ∧ Rd w.heap.size w' g 0 ∧ Below w.heap.size w w'
theorem rd_new {w : World} {A : Option Addr} {n m c : Nat} {bs : List Int} (h : Bytes w A n bs) (hm : m ≤ n) (h2 : m ≤ 2000) : Op0 w (.returned (.pointer (some ⟨w.heap.size, 0, none⟩))) (w.alloc (.cells #[.slice A m c, .int .i64 0] 63 (0, 0))) := by
  have hl : (bs.take m).length = m := by rw [List.length_take]; have := h.1; omega
  refine ⟨_, rfl, Nat.le_refl _, ⟨A, bs.take m, c, 0, ?_, Nat.le_refl _, ⟨by omega, fun x hx => h.2.1 x (List.mem_of_mem_take hx), fun hp => ?_⟩, Nat.le_refl _, by simp⟩, bl_alloc (Below.refl _ _) _⟩
  · rw [hl]
    show (w.heap.push _)[w.heap.size]? = _
    simp
  · obtain ⟨b, off, e, hb, hc⟩ := h.2.2 (by omega)
    refine ⟨b, off, e, hb, fun i hi => ?_⟩
    rw [World.cell?_alloc_lt _ _ _ (by simpa using hb), hc i (by omega)]
    rw [List.getD_eq_getElem?_getD, List.getD_eq_getElem?_getD, List.getElem?_take_of_lt (by omega)]
set_option maxHeartbeats 400000 in
theorem l6Open_any (A : Option Addr) (n c : Nat) (bs : List Int) (w : World) (h : Bytes w A n bs) (hc : n ≤ c) (hn : n ≤ 9223372036854775807) :
    Calls Tryd.prog 33 #[.slice A n c] w (Op0 w) := by
  by_cases hl : 2000 < n
  · go_enter Tryd.func33, Tryd.ntmps33
    go_wp2
    go_ret
    exact rd_new (m := 2000) h (by omega) (by omega)
  · go_enter Tryd.func33, Tryd.ntmps33
    go_wp2
    go_ret
    exact rd_new (m := n) h (by omega) (by omega)
end Go.Proofs.YthmfkdlncnjjoaaDoor

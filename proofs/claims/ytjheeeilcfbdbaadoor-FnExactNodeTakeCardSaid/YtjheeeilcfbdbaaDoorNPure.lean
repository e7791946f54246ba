/-
  The plain functions on nodes, and their laws. Nothing of the program is in sight here.
-/
import Derived.Test.YtjheeeilcfbdbaaDoorPure2
set_option linter.all false
set_option maxRecDepth 100000
namespace Go.Proofs.YtjheeeilcfbdbaaDoor

def ackOk (n : Nd) (d : Int) : Bool := ndOk n && decide (n.done ≤ d ∧ d ≤ n.log.length)
def ndAck (n : Nd) (d : Int) : Nd := if ackOk n d then ⟨n.id, n.log, d⟩ else Nd.zero
def ndPend (n : Nd) : List Upd := if ndOk n then n.log.drop n.done.toNat else []
def takeOk (n : Nd) (u : Upd) : Bool := ndOk n && updOk u && decide (n.log.length < 12)
def ndTake (n : Nd) (u : Upd) : Nd := if takeOk n u then ⟨n.id, n.log ++ [u], n.done⟩ else Nd.zero

theorem ndOk_parts {i j : Int} {l : List Upd} (h : ndOk ⟨i, l, j⟩ = true) : 1 ≤ i ∧ i ≤ 99 ∧ logOk l = true ∧ l.length ≤ 12 ∧ 0 ≤ j ∧ j ≤ l.length := by
  simp [ndOk] at h
  exact ⟨h.1.1.1, h.1.1.2, h.1.2, logOk_len h.1.2, h.2.1, h.2.2⟩
theorem ndOk_mk {i j : Int} {l : List Upd} (h1 : 1 ≤ i) (h2 : i ≤ 99) (h3 : logOk l = true) (h4 : 0 ≤ j) (h5 : j ≤ l.length) : ndOk ⟨i, l, j⟩ = true := by
  simp [ndOk, h1, h2, h3, h4, h5]
theorem ndOk_id {i j : Int} {l : List Upd} (h : ¬ (1 ≤ i ∧ i ≤ 99)) : ndOk ⟨i, l, j⟩ = false := by
  have : decide (1 ≤ i ∧ i ≤ 99) = false := by simpa using h
  simp only [ndOk, this, Bool.false_and]
theorem ndOk_log {i j : Int} {l : List Upd} (h : logOk l = false) : ndOk ⟨i, l, j⟩ = false := by simp [ndOk, h]
theorem ndOk_done {i j : Int} {l : List Upd} (h : ¬ (0 ≤ j ∧ j ≤ l.length)) : ndOk ⟨i, l, j⟩ = false := by
  have : decide (0 ≤ j ∧ j ≤ (l.length : Int)) = false := by simpa using h
  simp only [ndOk, this, Bool.and_false]

theorem ackOk_yes {n : Nd} {d : Int} (h : ackOk n d = true) : ndOk n = true ∧ n.done ≤ d ∧ d ≤ n.log.length := by
  simp [ackOk] at h; exact ⟨h.1, h.2.1, h.2.2⟩
theorem ackOk_mk {n : Nd} {d : Int} (h : ndOk n = true) (h1 : n.done ≤ d) (h2 : d ≤ n.log.length) : ackOk n d = true := by simp [ackOk, h, h1, h2]
theorem ackOk_nd {n : Nd} {d : Int} (h : ndOk n = false) : ackOk n d = false := by simp [ackOk, h]
theorem ackOk_d {n : Nd} {d : Int} (h : ¬ (n.done ≤ d ∧ d ≤ n.log.length)) : ackOk n d = false := by
  have : decide (n.done ≤ d ∧ d ≤ (n.log.length : Int)) = false := by simpa using h
  simp only [ackOk, this, Bool.and_false]
theorem ndAck_yes {n : Nd} {d : Int} (h : ackOk n d = true) : ndAck n d = ⟨n.id, n.log, d⟩ := by simp [ndAck, h]
theorem ndAck_no {n : Nd} {d : Int} (h : ackOk n d = false) : ndAck n d = Nd.zero := by simp [ndAck, h]
theorem ndPend_yes {n : Nd} (h : ndOk n = true) : ndPend n = n.log.drop n.done.toNat := by simp [ndPend, h]
theorem ndPend_no {n : Nd} (h : ndOk n = false) : ndPend n = [] := by simp [ndPend, h]

theorem takeOk_yes {n : Nd} {u : Upd} (h : takeOk n u = true) : ndOk n = true ∧ updOk u = true ∧ n.log.length < 12 := by
  simp [takeOk] at h; exact ⟨h.1.1, h.1.2, h.2⟩
theorem takeOk_nd {n : Nd} {u : Upd} (h : ndOk n = false) : takeOk n u = false := by simp [takeOk, h]
theorem takeOk_upd {n : Nd} {u : Upd} (h : updOk u = false) : takeOk n u = false := by simp [takeOk, h]
theorem takeOk_full {n : Nd} {u : Upd} (h : ¬ n.log.length < 12) : takeOk n u = false := by simp [takeOk]; intros; omega
theorem takeOk_mk {n : Nd} {u : Upd} (h : ndOk n = true) (h1 : updOk u = true) (h2 : n.log.length < 12) : takeOk n u = true := by simp [takeOk, h, h1, h2]
theorem ndTake_yes {n : Nd} {u : Upd} (h : takeOk n u = true) : ndTake n u = ⟨n.id, n.log ++ [u], n.done⟩ := by simp [ndTake, h]
theorem ndTake_no {n : Nd} {u : Upd} (h : takeOk n u = false) : ndTake n u = Nd.zero := by simp [ndTake, h]

/-- What a node answers is no longer than it was. -/
theorem ndAck_len (n : Nd) (d : Int) (m : Nat) (h : n.log.length ≤ m) : (ndAck n d).log.length ≤ m := by
  unfold ndAck; split
  · exact h
  · simp [Nd.zero]
theorem ndTake_len (n : Nd) (u : Upd) : (ndTake n u).log.length ≤ 12 := by
  unfold ndTake; split
  · rename_i h; have := (takeOk_yes h).2.2; simp; omega
  · simp [Nd.zero]
theorem ndPend_len (n : Nd) (m : Nat) (h : n.log.length ≤ m) : (ndPend n).length ≤ m := by
  unfold ndPend; split
  · simp; omega
  · simp

theorem nd_cases (n : Nd) : ∃ i l j, n = ⟨i, l, j⟩ := ⟨n.id, n.log, n.done, rfl⟩

/-- A node that has told what is everywhere. -/
theorem ndOk_ack {i j d : Int} {l : List Upd} (h : ackOk ⟨i, l, j⟩ d = true) : ndOk ⟨i, l, d⟩ = true := by
  obtain ⟨h1, h2, h3⟩ := ackOk_yes h
  obtain ⟨a, b, c, e, f, g⟩ := ndOk_parts h1
  simp only at h2 h3
  exact ndOk_mk a b c (by omega) h3
theorem logOk_snoc {l : List Upd} {u : Upd} (h : logOk l = true) (hu : updOk u = true) (hl : l.length < 12) : logOk (l ++ [u]) = true := by
  refine logOk_of (by simp; omega) fun i hi => ?_
  by_cases e : i < l.length
  · rw [List.getElem_append_left e]; exact logOk_at h e
  · rw [List.getElem_append_right (by omega)]; simpa using hu
theorem ndOk_take {i j : Int} {l : List Upd} {u : Upd} (h : takeOk ⟨i, l, j⟩ u = true) : ndOk ⟨i, l ++ [u], j⟩ = true := by
  obtain ⟨h1, h2, h3⟩ := takeOk_yes h
  obtain ⟨a, b, c, e, f, g⟩ := ndOk_parts h1
  exact ndOk_mk a b (logOk_snoc c h2 h3) f (by simp; omega)
end Go.Proofs.YtjheeeilcfbdbaaDoor

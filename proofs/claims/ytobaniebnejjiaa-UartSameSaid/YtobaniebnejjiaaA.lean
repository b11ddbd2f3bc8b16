/- A serial line, plainly: what it is, and what its calls answer. No program stands in here. -/
import Derived.Test.YtobaniebnejjiaaMid
import Derived.Test.YtobaniebnejjiaaTailAlloc
import Derived.Test.YtobaniebnejjiaaWhole
import Derived.Laws.BytesArg
import Derived.Laws.AppendOwn
import Derived.Deep.DeepCutAuto
namespace Go.Proofs.Ytobaniebnejjiaa.U
open Go.RowKit
set_option linter.all false
structure St where
  sent : List Int
  q : List Int
  ier : Int
  lcr : Int
  mcr : Int
  scr : Int
  dll : Int
  dlm : Int
  en : Bool
  ov : Bool
  dn : Bool
def Byte (b : Int) : Prop := 0 ≤ b ∧ b < 256
structure St.OK (u : St) : Prop where
  sent : ∀ b ∈ u.sent, Byte b
  q : ∀ b ∈ u.q, Byte b
  ier : Byte u.ier
  lcr : Byte u.lcr
  mcr : Byte u.mcr
  scr : Byte u.scr
  dll : Byte u.dll
  dlm : Byte u.dlm
  short : u.q.length ≤ 16
def St.new : St := ⟨[], [], 0, 0, 0, 0, 0, 0, false, false, false⟩
def b1 (b : Bool) : Int := if b = true then 1 else 0
def St.asks (u : St) : Int := if (u.ier / 4 % 2 == 1) = true ∧ u.ov = true then 6 else if (u.ier % 2 == 1) = true ∧ u.q ≠ [] then 4 else if (u.ier / 2 % 2 == 1) = true ∧ u.dn = true then 2 else 1
def St.lat (u : St) : Bool := decide (128 ≤ u.lcr)
def St.first (u : St) : Int × St := match u.q with | [] => (0, u) | b :: r => (b, { u with q := r })
def St.ident (u : St) : Int × St := (u.asks + (if u.en = true then 192 else 0), { u with dn := if u.asks = 2 then false else u.dn })
def St.status (u : St) : Int × St := (96 + (if u.q = [] then 0 else 1) + (if u.ov = true then 2 else 0), { u with ov := false })
def St.read (u : St) (off : Int) : Int × St :=
  if off = 0 then (if u.lat = true then (u.dll, u) else u.first)
  else if off = 1 then (if u.lat = true then u.dlm else u.ier, u)
  else if off = 2 then u.ident
  else if off = 3 then (u.lcr, u)
  else if off = 4 then (u.mcr, u)
  else if off = 5 then u.status
  else if off = 7 then (u.scr, u)
  else (0, u)
def St.allow (u : St) (b : Int) : St := { u with ier := b % 16, dn := if (b / 2 % 2 == 1) = true ∧ (u.ier / 2 % 2 == 1) = false then true else u.dn }
def St.control (u : St) (b : Int) : St := { u with en := (b % 2 == 1), q := if (b / 2 % 2 == 1) = true then [] else u.q }
def St.send (u : St) (b : Int) : St := { u with sent := u.sent ++ [b], dn := true }
def St.write (u : St) (off b : Int) : St :=
  if off = 0 then (if u.lat = true then { u with dll := b } else u.send b)
  else if off = 1 then (if u.lat = true then { u with dlm := b } else u.allow b)
  else if off = 2 then u.control b
  else if off = 3 then { u with lcr := b }
  else if off = 4 then { u with mcr := b % 32 }
  else if off = 7 then { u with scr := b }
  else u
def may (off width : Int) : Bool := decide (off < 8) && (width == 1)
def St.Read (u : St) (off width : Int) : Int × Bool × St := if may off width = true then ((u.read off).1, true, (u.read off).2) else (0, false, u)
def St.Write (u : St) (off width v : Int) : Bool × St := if may off width = true then (true, u.write off (v % 256)) else (false, u)
def St.Input (u : St) (b : Int) : Bool × St := if 16 ≤ u.q.length then (false, { u with ov := true }) else (true, { u with q := u.q ++ [b] })
def St.Take (u : St) : List Int × St := (u.sent, { u with sent := [] })
def St.Dump (u : St) : List Int := [u.ier, b1 u.en, u.lcr, u.mcr, u.scr, u.dll, u.dlm, b1 u.ov, b1 u.dn] ++ u.q
def St.Level (u : St) : Bool := u.asks != 1

/-! the laws that keep it whole -/
theorem OK_new : St.new.OK := ⟨by simp [St.new], by simp [St.new], by unfold Byte St.new; simp, by unfold Byte St.new; simp, by unfold Byte St.new; simp, by unfold Byte St.new; simp, by unfold Byte St.new; simp, by unfold Byte St.new; simp, by simp [St.new]⟩
theorem St.OK.first {u : St} (h : u.OK) : u.first.2.OK ∧ Byte u.first.1 := by
  unfold St.first
  split
  · exact ⟨h, by unfold Byte; omega⟩
  · rename_i b r e
    have hq := h.q
    have hs := h.short
    rw [e] at hq hs
    exact ⟨⟨h.sent, fun x hx => hq x (List.mem_cons_of_mem _ hx), h.ier, h.lcr, h.mcr, h.scr, h.dll, h.dlm, by simp at hs ⊢; omega⟩, hq b (by simp)⟩
theorem asks_of (u : St) : u.asks = 1 ∨ u.asks = 2 ∨ u.asks = 4 ∨ u.asks = 6 := by
  unfold St.asks
  split
  · simp
  · split
    · simp
    · split <;> simp
theorem St.OK.read {u : St} (h : u.OK) (off : Int) : (u.read off).2.OK ∧ Byte (u.read off).1 := by
  unfold St.read
  have z : Byte 0 := by unfold Byte; omega
  split
  · split
    · exact ⟨h, h.dll⟩
    · exact h.first
  split
  · refine ⟨h, ?_⟩
    split
    · exact h.dlm
    · exact h.ier
  split
  · refine ⟨⟨h.sent, h.q, h.ier, h.lcr, h.mcr, h.scr, h.dll, h.dlm, h.short⟩, ?_⟩
    have := asks_of u
    unfold Byte St.ident
    simp only
    split <;> omega
  split
  · exact ⟨h, h.lcr⟩
  split
  · exact ⟨h, h.mcr⟩
  split
  · refine ⟨⟨h.sent, h.q, h.ier, h.lcr, h.mcr, h.scr, h.dll, h.dlm, h.short⟩, ?_⟩
    unfold Byte St.status
    simp only
    split <;> split <;> omega
  split
  · exact ⟨h, h.scr⟩
  · exact ⟨h, z⟩
theorem St.OK.write {u : St} (h : u.OK) (off : Int) {b : Int} (hb : Byte b) : (u.write off b).OK := by
  have hb' := hb
  unfold Byte at hb'
  unfold St.write
  split
  · split
    · exact ⟨h.sent, h.q, h.ier, h.lcr, h.mcr, h.scr, hb, h.dlm, h.short⟩
    · refine ⟨?_, h.q, h.ier, h.lcr, h.mcr, h.scr, h.dll, h.dlm, h.short⟩
      intro x hx
      rcases List.mem_append.1 hx with hx | hx
      · exact h.sent x hx
      · rw [List.mem_singleton.1 hx]; exact hb
  split
  · split
    · exact ⟨h.sent, h.q, h.ier, h.lcr, h.mcr, h.scr, h.dll, hb, h.short⟩
    · exact ⟨h.sent, h.q, by unfold Byte St.allow; simp only; omega, h.lcr, h.mcr, h.scr, h.dll, h.dlm, h.short⟩
  split
  · unfold St.control
    split
    · exact ⟨h.sent, by simp, h.ier, h.lcr, h.mcr, h.scr, h.dll, h.dlm, by simp⟩
    · exact ⟨h.sent, h.q, h.ier, h.lcr, h.mcr, h.scr, h.dll, h.dlm, h.short⟩
  split
  · exact ⟨h.sent, h.q, h.ier, hb, h.mcr, h.scr, h.dll, h.dlm, h.short⟩
  split
  · exact ⟨h.sent, h.q, h.ier, h.lcr, by unfold Byte; simp only; omega, h.scr, h.dll, h.dlm, h.short⟩
  split
  · exact ⟨h.sent, h.q, h.ier, h.lcr, h.mcr, hb, h.dll, h.dlm, h.short⟩
  · exact h
theorem St.OK.Read {u : St} (h : u.OK) (off width : Int) : (u.Read off width).2.2.OK ∧ Byte (u.Read off width).1 := by
  unfold St.Read
  split
  · exact h.read off
  · exact ⟨h, by unfold Byte; omega⟩
theorem St.OK.Write {u : St} (h : u.OK) (off width v : Int) : (u.Write off width v).2.OK := by
  unfold St.Write
  split
  · exact h.write off (by unfold Byte; omega)
  · exact h
theorem St.OK.Input {u : St} (h : u.OK) {b : Int} (hb : Byte b) : (u.Input b).2.OK := by
  unfold St.Input
  split
  · exact ⟨h.sent, h.q, h.ier, h.lcr, h.mcr, h.scr, h.dll, h.dlm, h.short⟩
  · refine ⟨h.sent, ?_, h.ier, h.lcr, h.mcr, h.scr, h.dll, h.dlm, by simp; omega⟩
    intro x hx
    rcases List.mem_append.1 hx with hx | hx
    · exact h.q x hx
    · rw [List.mem_singleton.1 hx]; exact hb
theorem St.OK.Take {u : St} (h : u.OK) : u.Take.2.OK := ⟨by simp [St.Take], h.q, h.ier, h.lcr, h.mcr, h.scr, h.dll, h.dlm, h.short⟩

/-! bits of a byte -/
theorem bit_fin : ∀ n : Fin 256, (bits .and .u8 n.val 4 != 0) = ((n.val : Int) / 4 % 2 == 1) ∧ (bits .and .u8 n.val 1 != 0) = ((n.val : Int) % 2 == 1) ∧ (bits .and .u8 n.val 2 != 0) = ((n.val : Int) / 2 % 2 == 1) ∧ (bits .and .u8 n.val 2 == 0) = !((n.val : Int) / 2 % 2 == 1)
    ∧ (bits .and .u8 n.val 128 != 0) = decide (128 ≤ (n.val : Int)) ∧ bits .and .u8 n.val 15 = (n.val : Int) % 16 ∧ bits .and .u8 n.val 31 = (n.val : Int) % 32 := by decide +kernel
theorem bit_of {b : Int} (h : Byte b) : (bits .and .u8 b 4 != 0) = (b / 4 % 2 == 1) ∧ (bits .and .u8 b 1 != 0) = (b % 2 == 1) ∧ (bits .and .u8 b 2 != 0) = (b / 2 % 2 == 1) ∧ (bits .and .u8 b 2 == 0) = !(b / 2 % 2 == 1)
    ∧ (bits .and .u8 b 128 != 0) = decide (128 ≤ b) ∧ bits .and .u8 b 15 = b % 16 ∧ bits .and .u8 b 31 = b % 32 := by
  have := bit_fin ⟨b.toNat, by unfold Byte at h; omega⟩
  have e : ((b.toNat : Nat) : Int) = b := by unfold Byte at h; omega
  simp only [e] at this
  exact this
end Go.Proofs.Ytobaniebnejjiaa.U

/- Receive windows: what is released, what is taken. Plain lists. -/
import Derived.Test.YtidephmobajikaaDoorRW1
namespace Go.Proofs.YtidephmobajikaaDoor
open Go.RowKit
def plus (s : ByteArray) : ByteArray := ⟨#[43]⟩ ++ s
def minus : ByteArray := ⟨#[45]⟩
def shiftEv (l : List Slot) : ByteArray := match l with | [] => minus | s :: _ => if s.hav then plus s.item else minus
theorem shiftEv_t {l : List Slot} (hi : 0 < l.length) (h : l[0].hav = true) : shiftEv l = plus l[0].item := by
  cases l with
  | nil => simp at hi
  | cons s r => simp at h; simp [shiftEv, h]
theorem shiftEv_f {l : List Slot} (hi : 0 < l.length) (h : l[0].hav = false) : shiftEv l = minus := by
  cases l with
  | nil => simp at hi
  | cons s r => simp at h; simp [shiftEv, h]
def rel : Int → List Slot → Int × List Slot × List ByteArray
  | n, [] => (n, [], [])
  | n, s :: r => if s.hav then ((rel (aft n 1) r).1, (rel (aft n 1) r).2.1, plus s.item :: (rel (aft n 1) r).2.2) else (n, s :: r, [])
theorem rel_no {n : Int} {l : List Slot} (h : havAt l 0 = false) : rel n l = (n, l, []) := by
  cases l with
  | nil => rfl
  | cons s r => have : s.hav = false := h; simp [rel, this]
theorem rel_yes {n : Int} {l : List Slot} (h : havAt l 0 = true) : rel n l = ((rel (aft n 1) (l.drop 1)).1, (rel (aft n 1) (l.drop 1)).2.1, shiftEv l :: (rel (aft n 1) (l.drop 1)).2.2) := by
  cases l with
  | nil => cases h
  | cons s r => have : s.hav = true := h; simp [rel, shiftEv, this]
end Go.Proofs.YtidephmobajikaaDoor

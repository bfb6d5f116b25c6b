/- What a function's results read as where some of them lie in memory, shape by shape (c: a result in a cell, t: in a slot). -/
import Derived.WalkKit
import Derived.Deep.Draws
namespace Go.Proofs.Ytnaafjdnmbajjaa
theorem res_c {P : Program} {fn : Func} {w : World} {tmps : Array Value} {p0 : Tmp} {y0 : TypeId} {a0 : Addr} {v0 : Value} (h : fn.results = #[.cell p0 y0]) (ha0 : tmps.getD p0 undef = .pointer (some a0)) (hl0 : (loadVar y0 a0).run P w = .ok v0 w) :
    (results fn tmps).run P w = .ok (v0) w := by
  simp only [Array.getD_eq_getD_getElem?] at ha0
  simp only [results, h]
  first | (simp [asAddr, ha0, hl0]; done) | (simp [Result.andThen, asAddr, ha0, hl0]; done) | (simp [Sem.run_bind, Result.andThen, asAddr, ha0, hl0]; done)
theorem res_ct {P : Program} {fn : Func} {w : World} {tmps : Array Value} {p0 : Tmp} {y0 : TypeId} {a0 : Addr} {v0 : Value} {u1 : Tmp} {v1 : Value} (h : fn.results = #[.cell p0 y0, .tmp u1]) (ha0 : tmps.getD p0 undef = .pointer (some a0)) (hl0 : (loadVar y0 a0).run P w = .ok v0 w) (ht1 : tmps.getD u1 undef = v1) :
    (results fn tmps).run P w = .ok (.tuple #[v0, v1]) w := by
  simp only [Array.getD_eq_getD_getElem?] at ha0 ht1
  simp only [results, h]
  first | (simp [asAddr, ha0, hl0, ht1]; done) | (simp [Result.andThen, asAddr, ha0, hl0, ht1]; done) | (simp [Sem.run_bind, Result.andThen, asAddr, ha0, hl0, ht1]; done)
theorem res_cc {P : Program} {fn : Func} {w : World} {tmps : Array Value} {p0 : Tmp} {y0 : TypeId} {a0 : Addr} {v0 : Value} {p1 : Tmp} {y1 : TypeId} {a1 : Addr} {v1 : Value} (h : fn.results = #[.cell p0 y0, .cell p1 y1]) (ha0 : tmps.getD p0 undef = .pointer (some a0)) (hl0 : (loadVar y0 a0).run P w = .ok v0 w) (ha1 : tmps.getD p1 undef = .pointer (some a1)) (hl1 : (loadVar y1 a1).run P w = .ok v1 w) :
    (results fn tmps).run P w = .ok (.tuple #[v0, v1]) w := by
  simp only [Array.getD_eq_getD_getElem?] at ha0 ha1
  simp only [results, h]
  first | (simp [asAddr, ha0, hl0, ha1, hl1]; done) | (simp [Result.andThen, asAddr, ha0, hl0, ha1, hl1]; done) | (simp [Sem.run_bind, Result.andThen, asAddr, ha0, hl0, ha1, hl1]; done)
theorem res_tct {P : Program} {fn : Func} {w : World} {tmps : Array Value} {u0 : Tmp} {v0 : Value} {p1 : Tmp} {y1 : TypeId} {a1 : Addr} {v1 : Value} {u2 : Tmp} {v2 : Value} (h : fn.results = #[.tmp u0, .cell p1 y1, .tmp u2]) (ht0 : tmps.getD u0 undef = v0) (ha1 : tmps.getD p1 undef = .pointer (some a1)) (hl1 : (loadVar y1 a1).run P w = .ok v1 w) (ht2 : tmps.getD u2 undef = v2) :
    (results fn tmps).run P w = .ok (.tuple #[v0, v1, v2]) w := by
  simp only [Array.getD_eq_getD_getElem?] at ht0 ha1 ht2
  simp only [results, h]
  first | (simp [asAddr, ht0, ha1, hl1, ht2]; done) | (simp [Result.andThen, asAddr, ht0, ha1, hl1, ht2]; done) | (simp [Sem.run_bind, Result.andThen, asAddr, ht0, ha1, hl1, ht2]; done)
theorem res_ctt {P : Program} {fn : Func} {w : World} {tmps : Array Value} {p0 : Tmp} {y0 : TypeId} {a0 : Addr} {v0 : Value} {u1 : Tmp} {v1 : Value} {u2 : Tmp} {v2 : Value} (h : fn.results = #[.cell p0 y0, .tmp u1, .tmp u2]) (ha0 : tmps.getD p0 undef = .pointer (some a0)) (hl0 : (loadVar y0 a0).run P w = .ok v0 w) (ht1 : tmps.getD u1 undef = v1) (ht2 : tmps.getD u2 undef = v2) :
    (results fn tmps).run P w = .ok (.tuple #[v0, v1, v2]) w := by
  simp only [Array.getD_eq_getD_getElem?] at ha0 ht1 ht2
  simp only [results, h]
  first | (simp [asAddr, ha0, hl0, ht1, ht2]; done) | (simp [Result.andThen, asAddr, ha0, hl0, ht1, ht2]; done) | (simp [Sem.run_bind, Result.andThen, asAddr, ha0, hl0, ht1, ht2]; done)
theorem res_cct {P : Program} {fn : Func} {w : World} {tmps : Array Value} {p0 : Tmp} {y0 : TypeId} {a0 : Addr} {v0 : Value} {p1 : Tmp} {y1 : TypeId} {a1 : Addr} {v1 : Value} {u2 : Tmp} {v2 : Value} (h : fn.results = #[.cell p0 y0, .cell p1 y1, .tmp u2]) (ha0 : tmps.getD p0 undef = .pointer (some a0)) (hl0 : (loadVar y0 a0).run P w = .ok v0 w) (ha1 : tmps.getD p1 undef = .pointer (some a1)) (hl1 : (loadVar y1 a1).run P w = .ok v1 w) (ht2 : tmps.getD u2 undef = v2) :
    (results fn tmps).run P w = .ok (.tuple #[v0, v1, v2]) w := by
  simp only [Array.getD_eq_getD_getElem?] at ha0 ha1 ht2
  simp only [results, h]
  first | (simp [asAddr, ha0, hl0, ha1, hl1, ht2]; done) | (simp [Result.andThen, asAddr, ha0, hl0, ha1, hl1, ht2]; done) | (simp [Sem.run_bind, Result.andThen, asAddr, ha0, hl0, ha1, hl1, ht2]; done)
theorem res_cctt {P : Program} {fn : Func} {w : World} {tmps : Array Value} {p0 : Tmp} {y0 : TypeId} {a0 : Addr} {v0 : Value} {p1 : Tmp} {y1 : TypeId} {a1 : Addr} {v1 : Value} {u2 : Tmp} {v2 : Value} {u3 : Tmp} {v3 : Value} (h : fn.results = #[.cell p0 y0, .cell p1 y1, .tmp u2, .tmp u3]) (ha0 : tmps.getD p0 undef = .pointer (some a0)) (hl0 : (loadVar y0 a0).run P w = .ok v0 w) (ha1 : tmps.getD p1 undef = .pointer (some a1)) (hl1 : (loadVar y1 a1).run P w = .ok v1 w) (ht2 : tmps.getD u2 undef = v2) (ht3 : tmps.getD u3 undef = v3) :
    (results fn tmps).run P w = .ok (.tuple #[v0, v1, v2, v3]) w := by
  simp only [Array.getD_eq_getD_getElem?] at ha0 ha1 ht2 ht3
  simp only [results, h]
  first | (simp [asAddr, ha0, hl0, ha1, hl1, ht2, ht3]; done) | (simp [Result.andThen, asAddr, ha0, hl0, ha1, hl1, ht2, ht3]; done) | (simp [Sem.run_bind, Result.andThen, asAddr, ha0, hl0, ha1, hl1, ht2, ht3]; done)
theorem res_ctc {P : Program} {fn : Func} {w : World} {tmps : Array Value} {p0 : Tmp} {y0 : TypeId} {a0 : Addr} {v0 : Value} {u1 : Tmp} {v1 : Value} {p2 : Tmp} {y2 : TypeId} {a2 : Addr} {v2 : Value} (h : fn.results = #[.cell p0 y0, .tmp u1, .cell p2 y2]) (ha0 : tmps.getD p0 undef = .pointer (some a0)) (hl0 : (loadVar y0 a0).run P w = .ok v0 w) (ht1 : tmps.getD u1 undef = v1) (ha2 : tmps.getD p2 undef = .pointer (some a2)) (hl2 : (loadVar y2 a2).run P w = .ok v2 w) :
    (results fn tmps).run P w = .ok (.tuple #[v0, v1, v2]) w := by
  simp only [Array.getD_eq_getD_getElem?] at ha0 ht1 ha2
  simp only [results, h]
  first | (simp [asAddr, ha0, hl0, ht1, ha2, hl2]; done) | (simp [Result.andThen, asAddr, ha0, hl0, ht1, ha2, hl2]; done) | (simp [Sem.run_bind, Result.andThen, asAddr, ha0, hl0, ht1, ha2, hl2]; done)
theorem res_cttt {P : Program} {fn : Func} {w : World} {tmps : Array Value} {p0 : Tmp} {y0 : TypeId} {a0 : Addr} {v0 : Value} {u1 : Tmp} {v1 : Value} {u2 : Tmp} {v2 : Value} {u3 : Tmp} {v3 : Value} (h : fn.results = #[.cell p0 y0, .tmp u1, .tmp u2, .tmp u3]) (ha0 : tmps.getD p0 undef = .pointer (some a0)) (hl0 : (loadVar y0 a0).run P w = .ok v0 w) (ht1 : tmps.getD u1 undef = v1) (ht2 : tmps.getD u2 undef = v2) (ht3 : tmps.getD u3 undef = v3) :
    (results fn tmps).run P w = .ok (.tuple #[v0, v1, v2, v3]) w := by
  simp only [Array.getD_eq_getD_getElem?] at ha0 ht1 ht2 ht3
  simp only [results, h]
  first | (simp [asAddr, ha0, hl0, ht1, ht2, ht3]; done) | (simp [Result.andThen, asAddr, ha0, hl0, ht1, ht2, ht3]; done) | (simp [Sem.run_bind, Result.andThen, asAddr, ha0, hl0, ht1, ht2, ht3]; done)
theorem res_ctct {P : Program} {fn : Func} {w : World} {tmps : Array Value} {p0 : Tmp} {y0 : TypeId} {a0 : Addr} {v0 : Value} {u1 : Tmp} {v1 : Value} {p2 : Tmp} {y2 : TypeId} {a2 : Addr} {v2 : Value} {u3 : Tmp} {v3 : Value} (h : fn.results = #[.cell p0 y0, .tmp u1, .cell p2 y2, .tmp u3]) (ha0 : tmps.getD p0 undef = .pointer (some a0)) (hl0 : (loadVar y0 a0).run P w = .ok v0 w) (ht1 : tmps.getD u1 undef = v1) (ha2 : tmps.getD p2 undef = .pointer (some a2)) (hl2 : (loadVar y2 a2).run P w = .ok v2 w) (ht3 : tmps.getD u3 undef = v3) :
    (results fn tmps).run P w = .ok (.tuple #[v0, v1, v2, v3]) w := by
  simp only [Array.getD_eq_getD_getElem?] at ha0 ht1 ha2 ht3
  simp only [results, h]
  first | (simp [asAddr, ha0, hl0, ht1, ha2, hl2, ht3]; done) | (simp [Result.andThen, asAddr, ha0, hl0, ht1, ha2, hl2, ht3]; done) | (simp [Sem.run_bind, Result.andThen, asAddr, ha0, hl0, ht1, ha2, hl2, ht3]; done)
theorem res_tcct {P : Program} {fn : Func} {w : World} {tmps : Array Value} {u0 : Tmp} {v0 : Value} {p1 : Tmp} {y1 : TypeId} {a1 : Addr} {v1 : Value} {p2 : Tmp} {y2 : TypeId} {a2 : Addr} {v2 : Value} {u3 : Tmp} {v3 : Value} (h : fn.results = #[.tmp u0, .cell p1 y1, .cell p2 y2, .tmp u3]) (ht0 : tmps.getD u0 undef = v0) (ha1 : tmps.getD p1 undef = .pointer (some a1)) (hl1 : (loadVar y1 a1).run P w = .ok v1 w) (ha2 : tmps.getD p2 undef = .pointer (some a2)) (hl2 : (loadVar y2 a2).run P w = .ok v2 w) (ht3 : tmps.getD u3 undef = v3) :
    (results fn tmps).run P w = .ok (.tuple #[v0, v1, v2, v3]) w := by
  simp only [Array.getD_eq_getD_getElem?] at ht0 ha1 ha2 ht3
  simp only [results, h]
  first | (simp [asAddr, ht0, ha1, hl1, ha2, hl2, ht3]; done) | (simp [Result.andThen, asAddr, ht0, ha1, hl1, ha2, hl2, ht3]; done) | (simp [Sem.run_bind, Result.andThen, asAddr, ht0, ha1, hl1, ha2, hl2, ht3]; done)
theorem res_tctt {P : Program} {fn : Func} {w : World} {tmps : Array Value} {u0 : Tmp} {v0 : Value} {p1 : Tmp} {y1 : TypeId} {a1 : Addr} {v1 : Value} {u2 : Tmp} {v2 : Value} {u3 : Tmp} {v3 : Value} (h : fn.results = #[.tmp u0, .cell p1 y1, .tmp u2, .tmp u3]) (ht0 : tmps.getD u0 undef = v0) (ha1 : tmps.getD p1 undef = .pointer (some a1)) (hl1 : (loadVar y1 a1).run P w = .ok v1 w) (ht2 : tmps.getD u2 undef = v2) (ht3 : tmps.getD u3 undef = v3) :
    (results fn tmps).run P w = .ok (.tuple #[v0, v1, v2, v3]) w := by
  simp only [Array.getD_eq_getD_getElem?] at ht0 ha1 ht2 ht3
  simp only [results, h]
  first | (simp [asAddr, ht0, ha1, hl1, ht2, ht3]; done) | (simp [Result.andThen, asAddr, ht0, ha1, hl1, ht2, ht3]; done) | (simp [Sem.run_bind, Result.andThen, asAddr, ht0, ha1, hl1, ht2, ht3]; done)
theorem res_ccc {P : Program} {fn : Func} {w : World} {tmps : Array Value} {p0 : Tmp} {y0 : TypeId} {a0 : Addr} {v0 : Value} {p1 : Tmp} {y1 : TypeId} {a1 : Addr} {v1 : Value} {p2 : Tmp} {y2 : TypeId} {a2 : Addr} {v2 : Value} (h : fn.results = #[.cell p0 y0, .cell p1 y1, .cell p2 y2]) (ha0 : tmps.getD p0 undef = .pointer (some a0)) (hl0 : (loadVar y0 a0).run P w = .ok v0 w) (ha1 : tmps.getD p1 undef = .pointer (some a1)) (hl1 : (loadVar y1 a1).run P w = .ok v1 w) (ha2 : tmps.getD p2 undef = .pointer (some a2)) (hl2 : (loadVar y2 a2).run P w = .ok v2 w) :
    (results fn tmps).run P w = .ok (.tuple #[v0, v1, v2]) w := by
  simp only [Array.getD_eq_getD_getElem?] at ha0 ha1 ha2
  simp only [results, h]
  first | (simp [asAddr, ha0, hl0, ha1, hl1, ha2, hl2]; done) | (simp [Result.andThen, asAddr, ha0, hl0, ha1, hl1, ha2, hl2]; done) | (simp [Sem.run_bind, Result.andThen, asAddr, ha0, hl0, ha1, hl1, ha2, hl2]; done)
theorem res_cctc {P : Program} {fn : Func} {w : World} {tmps : Array Value} {p0 : Tmp} {y0 : TypeId} {a0 : Addr} {v0 : Value} {p1 : Tmp} {y1 : TypeId} {a1 : Addr} {v1 : Value} {u2 : Tmp} {v2 : Value} {p3 : Tmp} {y3 : TypeId} {a3 : Addr} {v3 : Value} (h : fn.results = #[.cell p0 y0, .cell p1 y1, .tmp u2, .cell p3 y3]) (ha0 : tmps.getD p0 undef = .pointer (some a0)) (hl0 : (loadVar y0 a0).run P w = .ok v0 w) (ha1 : tmps.getD p1 undef = .pointer (some a1)) (hl1 : (loadVar y1 a1).run P w = .ok v1 w) (ht2 : tmps.getD u2 undef = v2) (ha3 : tmps.getD p3 undef = .pointer (some a3)) (hl3 : (loadVar y3 a3).run P w = .ok v3 w) :
    (results fn tmps).run P w = .ok (.tuple #[v0, v1, v2, v3]) w := by
  simp only [Array.getD_eq_getD_getElem?] at ha0 ha1 ht2 ha3
  simp only [results, h]
  first | (simp [asAddr, ha0, hl0, ha1, hl1, ht2, ha3, hl3]; done) | (simp [Result.andThen, asAddr, ha0, hl0, ha1, hl1, ht2, ha3, hl3]; done) | (simp [Sem.run_bind, Result.andThen, asAddr, ha0, hl0, ha1, hl1, ht2, ha3, hl3]; done)
/-- min and max of two integers, so that the walk does not part on them: 'attribute [local go_sem ↓] run_min_plain run_max_plain' -/
theorem run_min_plain {P : Program} {w : World} (ts : Array TypeId) (t : TypeId) (k : IntKind) (x y : Int) : (Builtin.min_ ts t #[.int k x, .int k y]).run P w = .ok (.int k (min x y)) w := by
  rw [run_min_int2]; congr 2; split <;> omega
theorem run_max_plain {P : Program} {w : World} (ts : Array TypeId) (t : TypeId) (k : IntKind) (x y : Int) : (Builtin.max_ ts t #[.int k x, .int k y]).run P w = .ok (.int k (max x y)) w := by
  rw [run_max_int2]; congr 2; split <;> omega
/-- draws outermost, so that the walk sees the cells behind them: 'attribute [local go_sem] setCell_drewN alloc_drewN' -/
theorem setCell_drewN {w : World} {n : Nat} {a : Addr} {v : Value} : (w.drewN n).setCell a v = (w.setCell a v).drewN n := rfl
theorem alloc_drewN {w : World} {n : Nat} {o : Obj} : (w.drewN n).alloc o = (w.alloc o).drewN n := rfl
end Go.Proofs.Ytnaafjdnmbajjaa

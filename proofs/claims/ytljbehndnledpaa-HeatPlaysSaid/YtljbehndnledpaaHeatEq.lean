/- Spots and counts compared. No condition. -/
import Derived.Test.YtljbehndnledpaaHeatLawCool
namespace Go.Proofs.Ytljbehndnledpaa
open Go.RowKit

theorem part3_0 (x y : Int) (w : World) : (part 3 #[.int .i64 x, .int .i64 y] 0).run Try.prog w = .ok (.int .i64 x) w := by kernel_rfl
theorem part3_1 (x y : Int) (w : World) : (part 3 #[.int .i64 x, .int .i64 y] 1).run Try.prog w = .ok (.int .i64 y) w := by kernel_rfl
theorem held99 : Try.prog.stoodInHeld 99 = false := by kernel_rfl
theorem fields99 : (Try.prog.fieldsOf 99).toList.map (fun f => (f.name != "_", f.type, f.offset)) = [(true, 3, 0), (true, 3, 1)] := by kernel_rfl
theorem und99 : Try.prog.underlying 99 = some (.struct (Try.prog.fieldsOf 99)) := by kernel_rfl
theorem eqFields2 (P : Program) (d : Nat) (xs ys : Array Value) (fs : List Field) (w : World) (x y u v : Int) (hf : fs.map (fun f => (f.name != "_", f.type, f.offset)) = [(true, 3, 0), (true, 3, 1)]) (h3 : P.underlying 3 = some (.int .i64))
    (a0 : (part 3 xs 0).run P w = .ok (.int .i64 x) w) (a1 : (part 3 xs 1).run P w = .ok (.int .i64 y) w) (b0 : (part 3 ys 0).run P w = .ok (.int .i64 u) w) (b1 : (part 3 ys 1).run P w = .ok (.int .i64 v) w) :
    (Op.eqFields (d + 1) xs ys fs).run P w = .ok (x == u && y == v) w := by
  obtain ⟨f, g, rfl⟩ : ∃ f g, fs = [f, g] := by
    have hl := congrArg List.length hf
    rw [List.length_map] at hl
    rcases fs with _ | ⟨f, _ | ⟨g, _ | ⟨q, r⟩⟩⟩
    · simp at hl
    · simp at hl
    · exact ⟨f, g, rfl⟩
    · simp at hl
  · simp only [List.map_cons, List.map_nil, List.cons.injEq, Prod.mk.injEq, bne_iff_ne, ne_eq, and_true] at hf
    obtain ⟨⟨n0, t0, o0⟩, n1, t1, o1⟩ := hf
    have r0 := run_equalIn_int (P := P) w d 3 .i64 .i64 x u h3
    have r1 := run_equalIn_int (P := P) w d 3 .i64 .i64 y v h3
    simp only [Op.eqFields, Sem.run_bind, t0, t1, o0, o1, a0, a1, b0, b1, r0, r1, Result.andThen_ok, n0, n1, Sem.run_ite, ne_eq, not_false_eq_true, if_true, Sem.run_pure]
    by_cases h0 : x = u
    · by_cases h1 : y = v <;> simp [h0, h1]
    · simp [h0]
theorem eql99 (x y u v : Int) (w : World) : (binOp .eql 99 (.agg #[.int .i64 x, .int .i64 y]) (.agg #[.int .i64 u, .int .i64 v])).run Try.prog w = .ok (.bool (x == u && y == v)) w := by
  rw [run_eql_struct, run_equalIn_struct w 9999 99 _ _ und99 held99, eqFields2 Try.prog 9998 _ _ _ w x y u v fields99 Try.underlying3 (part3_0 x y w) (part3_1 x y w) (part3_0 u v w) (part3_1 u v w)]
  rfl

theorem part99 (x y n : Int) (w : World) : (part 99 #[.int .i64 x, .int .i64 y, .int .i64 n] 0).run Try.prog w = .ok (.agg #[.int .i64 x, .int .i64 y]) w := by kernel_rfl
theorem part3_2 (x y n : Int) (w : World) : (part 3 #[.int .i64 x, .int .i64 y, .int .i64 n] 2).run Try.prog w = .ok (.int .i64 n) w := by kernel_rfl
theorem held111 : Try.prog.stoodInHeld 111 = false := by kernel_rfl
theorem fields111 : (Try.prog.fieldsOf 111).toList.map (fun f => (f.name != "_", f.type, f.offset)) = [(true, 99, 0), (true, 3, 2)] := by kernel_rfl
theorem und111 : Try.prog.underlying 111 = some (.struct (Try.prog.fieldsOf 111)) := by kernel_rfl
theorem eqFields111 (P : Program) (d : Nat) (xs ys : Array Value) (fs : List Field) (w : World) (s u : Value) (y v : Int) (r : Bool) (hf : fs.map (fun f => (f.name != "_", f.type, f.offset)) = [(true, 99, 0), (true, 3, 2)]) (h3 : P.underlying 3 = some (.int .i64))
    (a0 : (part 99 xs 0).run P w = .ok s w) (a1 : (part 3 xs 2).run P w = .ok (.int .i64 y) w) (b0 : (part 99 ys 0).run P w = .ok u w) (b1 : (part 3 ys 2).run P w = .ok (.int .i64 v) w) (hr : (Op.equalIn (d + 1) 99 s u).run P w = .ok r w) :
    (Op.eqFields (d + 1) xs ys fs).run P w = .ok (r && y == v) w := by
  obtain ⟨f, g, rfl⟩ : ∃ f g, fs = [f, g] := by
    have hl := congrArg List.length hf
    rw [List.length_map] at hl
    rcases fs with _ | ⟨f, _ | ⟨g, _ | ⟨q, r⟩⟩⟩
    · simp at hl
    · simp at hl
    · exact ⟨f, g, rfl⟩
    · simp at hl
  · simp only [List.map_cons, List.map_nil, List.cons.injEq, Prod.mk.injEq, bne_iff_ne, ne_eq, and_true] at hf
    obtain ⟨⟨n0, t0, o0⟩, n1, t1, o1⟩ := hf
    have r1 := run_equalIn_int (P := P) w d 3 .i64 .i64 y v h3
    simp only [Op.eqFields, Sem.run_bind, t0, t1, o0, o1, a0, a1, b0, b1, hr, r1, Result.andThen_ok, n0, n1, Sem.run_ite, ne_eq, not_false_eq_true, if_true, Sem.run_pure]
    cases r
    · simp
    · by_cases h1 : y = v <;> simp [h1]
theorem neq111 (x y n u v m : Int) (w : World) : (binOp .neq 111 (.agg #[.int .i64 x, .int .i64 y, .int .i64 n]) (.agg #[.int .i64 u, .int .i64 v, .int .i64 m])).run Try.prog w = .ok (.bool (!((x == u && y == v) && n == m))) w := by
  have hr : (Op.equalIn 9999 99 (.agg #[.int .i64 x, .int .i64 y]) (.agg #[.int .i64 u, .int .i64 v])).run Try.prog w = .ok (x == u && y == v) w := by
    rw [run_equalIn_struct w 9998 99 _ _ und99 held99]
    exact eqFields2 Try.prog 9997 _ _ _ w x y u v fields99 Try.underlying3 (part3_0 x y w) (part3_1 x y w) (part3_0 u v w) (part3_1 u v w)
  rw [run_neq_struct, run_equalIn_struct w 9999 111 _ _ und111 held111, eqFields111 Try.prog 9998 _ _ _ w _ _ n m _ fields111 Try.underlying3 (part99 x y n w) (part3_2 x y n w) (part99 u v m w) (part3_2 u v m w) hr]
  rfl
end Go.Proofs.Ytljbehndnledpaa

/- What is proved: ClkOps gives true, whatever its arguments and the world. Conditions: none. The frame was written by the seat's own tool; the walk is an evaluation of each case. -/
import Derived.Test.YtpjmiopplfmcfaaRows
import Derived.Test.YtpjmiopplfmcfaaClkOpsPart0
import Derived.Test.YtpjmiopplfmcfaaClkOpsPart1
import Derived.Test.YtpjmiopplfmcfaaClkOpsPart2
import Derived.Test.YtpjmiopplfmcfaaClkOpsPart3
import Derived.Test.YtpjmiopplfmcfaaClkOpsPart4
import Derived.Test.YtpjmiopplfmcfaaClkOpsPart5
import Derived.Test.YtpjmiopplfmcfaaClkOpsPart6
import Derived.Test.YtpjmiopplfmcfaaClkOpsPart7
import Derived.Test.YtpjmiopplfmcfaaClkOpsPart8
import Derived.Test.YtpjmiopplfmcfaaClkOpsPart9
import Derived.Test.YtpjmiopplfmcfaaClkOpsPart10
import Derived.Test.YtpjmiopplfmcfaaClkOpsPart11
import Derived.Test.YtpjmiopplfmcfaaClkOpsPart12
import Derived.Test.YtpjmiopplfmcfaaClkOpsPart13
import Derived.Test.YtpjmiopplfmcfaaClkOpsPart14
import Derived.Test.YtpjmiopplfmcfaaClkOpsPart15
import Derived.Test.YtpjmiopplfmcfaaClkOpsPart16
import Derived.Test.YtpjmiopplfmcfaaClkOpsPart17
import Derived.Test.YtpjmiopplfmcfaaClkOpsPart18
import Derived.Test.YtpjmiopplfmcfaaClkOpsPart19
import Derived.Test.YtpjmiopplfmcfaaClkOpsPart20
import Derived.Test.YtpjmiopplfmcfaaClkOpsPart21
import Derived.Test.YtpjmiopplfmcfaaClkOpsPart22
import Derived.Test.YtpjmiopplfmcfaaClkOpsPart23
import Derived.Test.YtpjmiopplfmcfaaClkOpsPart24
import Derived.Test.YtpjmiopplfmcfaaClkOpsPart25
import Derived.Test.YtpjmiopplfmcfaaClkOpsPart26
import Derived.Test.YtpjmiopplfmcfaaClkOpsPart27
import Derived.Test.YtpjmiopplfmcfaaClkOpsPart28
import Derived.Test.YtpjmiopplfmcfaaClkOpsPart29
import Derived.Test.YtpjmiopplfmcfaaClkOpsPart30
import Derived.Test.YtpjmiopplfmcfaaClkOpsPart31
import Derived.Test.YtpjmiopplfmcfaaClkOpsPart32
import Derived.Test.YtpjmiopplfmcfaaClkOpsPart33
import Derived.Test.YtpjmiopplfmcfaaClkOpsPart34
import Derived.Test.YtpjmiopplfmcfaaClkOpsPart35
import Derived.Test.YtpjmiopplfmcfaaClkOpsPart36
import Derived.Test.YtpjmiopplfmcfaaClkOpsPart37
import Derived.Test.YtpjmiopplfmcfaaClkOpsPart38
import Derived.Test.YtpjmiopplfmcfaaClkOpsPart39
import Derived.Test.YtpjmiopplfmcfaaClkOpsPart40
import Derived.Test.YtpjmiopplfmcfaaClkOpsPart41
import Derived.Test.YtpjmiopplfmcfaaClkOpsPart42
import Derived.Test.YtpjmiopplfmcfaaClkOpsPart43
import Derived.Test.YtpjmiopplfmcfaaClkOpsPart44
import Derived.WalkKit
import Derived.ProofKit
import Derived.OpenShut
namespace Go.Proofs.Ytpjmiopplfmcfaa.clkOps
open Go.ChangeShapes Go.WideShapes Go.ChangeAt Go.RowKit
set_option linter.unusedVariables false      -- a walk need not use every 'w<i>' (that an integer argument fits its kind)

theorem own : ownKnob Try.prog.godebug = none := by kernel_rfl

theorem cases : ∀ x ∈ ([.rng .i64 9223372036854775808 18446744073709551615, .rng .i64 6 9223372036854775807, .int .i64 0, .int .i64 1, .int .i64 2, .int .i64 3, .int .i64 4, .int .i64 5] : List Eng.AV), ∀ y ∈ ([.rng .i64 9223372036854775808 18446744073709551615, .rng .i64 6 9223372036854775807, .int .i64 0, .int .i64 1, .int .i64 2, .int .i64 3, .int .i64 4, .int .i64 5] : List Eng.AV), ∀ z ∈ ([.rng .i64 9223372036854775808 18446744073709551615, .rng .i64 5 9223372036854775807, .int .i64 0, .int .i64 1, .int .i64 2, .int .i64 3, .int .i64 4] : List Eng.AV), each x y z = true := (Eng.all_cons (Eng.all_cons (Eng.all_cons part0 (Eng.all_cons part1 (Eng.all_cons part2 (Eng.all_cons part3 (Eng.all_cons part4 (Eng.all_cons part5 (Eng.all_cons part6 Eng.all_nil))))))) (Eng.all_cons (Eng.all_cons part7 (Eng.all_cons part8 (Eng.all_cons part9 (Eng.all_cons part10 (Eng.all_cons part11 (Eng.all_cons part12 (Eng.all_cons part13 Eng.all_nil))))))) (Eng.all_cons (Eng.all_cons part14 (Eng.all_cons part15 (Eng.all_cons part16 (Eng.all_cons part17 (Eng.all_cons part18 (Eng.all_cons part19 (Eng.all_cons part20 Eng.all_nil))))))) (Eng.all_cons (Eng.all_cons part21 (Eng.all_cons part22 (Eng.all_cons part23 (Eng.all_cons part24 (Eng.all_cons part25 (Eng.all_cons part26 (Eng.all_cons part27 Eng.all_nil))))))) (Eng.all_cons (Eng.all_cons part28 (Eng.all_cons part29 (Eng.all_cons part30 (Eng.all_cons part31 (Eng.all_cons part32 (Eng.all_cons part33 (Eng.all_cons part34 Eng.all_nil))))))) (Eng.all_cons (Eng.all_cons part35 (Eng.all_cons part36 (Eng.all_cons part37 (Eng.all_cons part38 (Eng.all_cons part39 (Eng.all_cons part40 (Eng.all_cons part41 Eng.all_nil))))))) (Eng.all_cons (Eng.all_cons part42 (Eng.all_cons part43 (Eng.all_cons part44 (Eng.all_cons part45 (Eng.all_cons part46 (Eng.all_cons part47 (Eng.all_cons part48 Eng.all_nil))))))) (Eng.all_cons (Eng.all_cons part49 (Eng.all_cons part50 (Eng.all_cons part51 (Eng.all_cons part52 (Eng.all_cons part53 (Eng.all_cons part54 (Eng.all_cons part55 Eng.all_nil))))))) Eng.all_nil)))))))) (Eng.all_cons (Eng.all_cons (Eng.all_cons part56 (Eng.all_cons part57 (Eng.all_cons part58 (Eng.all_cons part59 (Eng.all_cons part60 (Eng.all_cons part61 (Eng.all_cons part62 Eng.all_nil))))))) (Eng.all_cons (Eng.all_cons part63 (Eng.all_cons part64 (Eng.all_cons part65 (Eng.all_cons part66 (Eng.all_cons part67 (Eng.all_cons part68 (Eng.all_cons part69 Eng.all_nil))))))) (Eng.all_cons (Eng.all_cons part70 (Eng.all_cons part71 (Eng.all_cons part72 (Eng.all_cons part73 (Eng.all_cons part74 (Eng.all_cons part75 (Eng.all_cons part76 Eng.all_nil))))))) (Eng.all_cons (Eng.all_cons part77 (Eng.all_cons part78 (Eng.all_cons part79 (Eng.all_cons part80 (Eng.all_cons part81 (Eng.all_cons part82 (Eng.all_cons part83 Eng.all_nil))))))) (Eng.all_cons (Eng.all_cons part84 (Eng.all_cons part85 (Eng.all_cons part86 (Eng.all_cons part87 (Eng.all_cons part88 (Eng.all_cons part89 (Eng.all_cons part90 Eng.all_nil))))))) (Eng.all_cons (Eng.all_cons part91 (Eng.all_cons part92 (Eng.all_cons part93 (Eng.all_cons part94 (Eng.all_cons part95 (Eng.all_cons part96 (Eng.all_cons part97 Eng.all_nil))))))) (Eng.all_cons (Eng.all_cons part98 (Eng.all_cons part99 (Eng.all_cons part100 (Eng.all_cons part101 (Eng.all_cons part102 (Eng.all_cons part103 (Eng.all_cons part104 Eng.all_nil))))))) (Eng.all_cons (Eng.all_cons part105 (Eng.all_cons part106 (Eng.all_cons part107 (Eng.all_cons part108 (Eng.all_cons part109 (Eng.all_cons part110 (Eng.all_cons part111 Eng.all_nil))))))) Eng.all_nil)))))))) (Eng.all_cons (Eng.all_cons (Eng.all_cons part112 (Eng.all_cons part113 (Eng.all_cons part114 (Eng.all_cons part115 (Eng.all_cons part116 (Eng.all_cons part117 (Eng.all_cons part118 Eng.all_nil))))))) (Eng.all_cons (Eng.all_cons part119 (Eng.all_cons part120 (Eng.all_cons part121 (Eng.all_cons part122 (Eng.all_cons part123 (Eng.all_cons part124 (Eng.all_cons part125 Eng.all_nil))))))) (Eng.all_cons (Eng.all_cons part126 (Eng.all_cons part127 (Eng.all_cons part128 (Eng.all_cons part129 (Eng.all_cons part130 (Eng.all_cons part131 (Eng.all_cons part132 Eng.all_nil))))))) (Eng.all_cons (Eng.all_cons part133 (Eng.all_cons part134 (Eng.all_cons part135 (Eng.all_cons part136 (Eng.all_cons part137 (Eng.all_cons part138 (Eng.all_cons part139 Eng.all_nil))))))) (Eng.all_cons (Eng.all_cons part140 (Eng.all_cons part141 (Eng.all_cons part142 (Eng.all_cons part143 (Eng.all_cons part144 (Eng.all_cons part145 (Eng.all_cons part146 Eng.all_nil))))))) (Eng.all_cons (Eng.all_cons part147 (Eng.all_cons part148 (Eng.all_cons part149 (Eng.all_cons part150 (Eng.all_cons part151 (Eng.all_cons part152 (Eng.all_cons part153 Eng.all_nil))))))) (Eng.all_cons (Eng.all_cons part154 (Eng.all_cons part155 (Eng.all_cons part156 (Eng.all_cons part157 (Eng.all_cons part158 (Eng.all_cons part159 (Eng.all_cons part160 Eng.all_nil))))))) (Eng.all_cons (Eng.all_cons part161 (Eng.all_cons part162 (Eng.all_cons part163 (Eng.all_cons part164 (Eng.all_cons part165 (Eng.all_cons part166 (Eng.all_cons part167 Eng.all_nil))))))) Eng.all_nil)))))))) (Eng.all_cons (Eng.all_cons (Eng.all_cons part168 (Eng.all_cons part169 (Eng.all_cons part170 (Eng.all_cons part171 (Eng.all_cons part172 (Eng.all_cons part173 (Eng.all_cons part174 Eng.all_nil))))))) (Eng.all_cons (Eng.all_cons part175 (Eng.all_cons part176 (Eng.all_cons part177 (Eng.all_cons part178 (Eng.all_cons part179 (Eng.all_cons part180 (Eng.all_cons part181 Eng.all_nil))))))) (Eng.all_cons (Eng.all_cons part182 (Eng.all_cons part183 (Eng.all_cons part184 (Eng.all_cons part185 (Eng.all_cons part186 (Eng.all_cons part187 (Eng.all_cons part188 Eng.all_nil))))))) (Eng.all_cons (Eng.all_cons part189 (Eng.all_cons part190 (Eng.all_cons part191 (Eng.all_cons part192 (Eng.all_cons part193 (Eng.all_cons part194 (Eng.all_cons part195 Eng.all_nil))))))) (Eng.all_cons (Eng.all_cons part196 (Eng.all_cons part197 (Eng.all_cons part198 (Eng.all_cons part199 (Eng.all_cons part200 (Eng.all_cons part201 (Eng.all_cons part202 Eng.all_nil))))))) (Eng.all_cons (Eng.all_cons part203 (Eng.all_cons part204 (Eng.all_cons part205 (Eng.all_cons part206 (Eng.all_cons part207 (Eng.all_cons part208 (Eng.all_cons part209 Eng.all_nil))))))) (Eng.all_cons (Eng.all_cons part210 (Eng.all_cons part211 (Eng.all_cons part212 (Eng.all_cons part213 (Eng.all_cons part214 (Eng.all_cons part215 (Eng.all_cons part216 Eng.all_nil))))))) (Eng.all_cons (Eng.all_cons part217 (Eng.all_cons part218 (Eng.all_cons part219 (Eng.all_cons part220 (Eng.all_cons part221 (Eng.all_cons part222 (Eng.all_cons part223 Eng.all_nil))))))) Eng.all_nil)))))))) (Eng.all_cons (Eng.all_cons (Eng.all_cons part224 (Eng.all_cons part225 (Eng.all_cons part226 (Eng.all_cons part227 (Eng.all_cons part228 (Eng.all_cons part229 (Eng.all_cons part230 Eng.all_nil))))))) (Eng.all_cons (Eng.all_cons part231 (Eng.all_cons part232 (Eng.all_cons part233 (Eng.all_cons part234 (Eng.all_cons part235 (Eng.all_cons part236 (Eng.all_cons part237 Eng.all_nil))))))) (Eng.all_cons (Eng.all_cons part238 (Eng.all_cons part239 (Eng.all_cons part240 (Eng.all_cons part241 (Eng.all_cons part242 (Eng.all_cons part243 (Eng.all_cons part244 Eng.all_nil))))))) (Eng.all_cons (Eng.all_cons part245 (Eng.all_cons part246 (Eng.all_cons part247 (Eng.all_cons part248 (Eng.all_cons part249 (Eng.all_cons part250 (Eng.all_cons part251 Eng.all_nil))))))) (Eng.all_cons (Eng.all_cons part252 (Eng.all_cons part253 (Eng.all_cons part254 (Eng.all_cons part255 (Eng.all_cons part256 (Eng.all_cons part257 (Eng.all_cons part258 Eng.all_nil))))))) (Eng.all_cons (Eng.all_cons part259 (Eng.all_cons part260 (Eng.all_cons part261 (Eng.all_cons part262 (Eng.all_cons part263 (Eng.all_cons part264 (Eng.all_cons part265 Eng.all_nil))))))) (Eng.all_cons (Eng.all_cons part266 (Eng.all_cons part267 (Eng.all_cons part268 (Eng.all_cons part269 (Eng.all_cons part270 (Eng.all_cons part271 (Eng.all_cons part272 Eng.all_nil))))))) (Eng.all_cons (Eng.all_cons part273 (Eng.all_cons part274 (Eng.all_cons part275 (Eng.all_cons part276 (Eng.all_cons part277 (Eng.all_cons part278 (Eng.all_cons part279 Eng.all_nil))))))) Eng.all_nil)))))))) (Eng.all_cons (Eng.all_cons (Eng.all_cons part280 (Eng.all_cons part281 (Eng.all_cons part282 (Eng.all_cons part283 (Eng.all_cons part284 (Eng.all_cons part285 (Eng.all_cons part286 Eng.all_nil))))))) (Eng.all_cons (Eng.all_cons part287 (Eng.all_cons part288 (Eng.all_cons part289 (Eng.all_cons part290 (Eng.all_cons part291 (Eng.all_cons part292 (Eng.all_cons part293 Eng.all_nil))))))) (Eng.all_cons (Eng.all_cons part294 (Eng.all_cons part295 (Eng.all_cons part296 (Eng.all_cons part297 (Eng.all_cons part298 (Eng.all_cons part299 (Eng.all_cons part300 Eng.all_nil))))))) (Eng.all_cons (Eng.all_cons part301 (Eng.all_cons part302 (Eng.all_cons part303 (Eng.all_cons part304 (Eng.all_cons part305 (Eng.all_cons part306 (Eng.all_cons part307 Eng.all_nil))))))) (Eng.all_cons (Eng.all_cons part308 (Eng.all_cons part309 (Eng.all_cons part310 (Eng.all_cons part311 (Eng.all_cons part312 (Eng.all_cons part313 (Eng.all_cons part314 Eng.all_nil))))))) (Eng.all_cons (Eng.all_cons part315 (Eng.all_cons part316 (Eng.all_cons part317 (Eng.all_cons part318 (Eng.all_cons part319 (Eng.all_cons part320 (Eng.all_cons part321 Eng.all_nil))))))) (Eng.all_cons (Eng.all_cons part322 (Eng.all_cons part323 (Eng.all_cons part324 (Eng.all_cons part325 (Eng.all_cons part326 (Eng.all_cons part327 (Eng.all_cons part328 Eng.all_nil))))))) (Eng.all_cons (Eng.all_cons part329 (Eng.all_cons part330 (Eng.all_cons part331 (Eng.all_cons part332 (Eng.all_cons part333 (Eng.all_cons part334 (Eng.all_cons part335 Eng.all_nil))))))) Eng.all_nil)))))))) (Eng.all_cons (Eng.all_cons (Eng.all_cons part336 (Eng.all_cons part337 (Eng.all_cons part338 (Eng.all_cons part339 (Eng.all_cons part340 (Eng.all_cons part341 (Eng.all_cons part342 Eng.all_nil))))))) (Eng.all_cons (Eng.all_cons part343 (Eng.all_cons part344 (Eng.all_cons part345 (Eng.all_cons part346 (Eng.all_cons part347 (Eng.all_cons part348 (Eng.all_cons part349 Eng.all_nil))))))) (Eng.all_cons (Eng.all_cons part350 (Eng.all_cons part351 (Eng.all_cons part352 (Eng.all_cons part353 (Eng.all_cons part354 (Eng.all_cons part355 (Eng.all_cons part356 Eng.all_nil))))))) (Eng.all_cons (Eng.all_cons part357 (Eng.all_cons part358 (Eng.all_cons part359 (Eng.all_cons part360 (Eng.all_cons part361 (Eng.all_cons part362 (Eng.all_cons part363 Eng.all_nil))))))) (Eng.all_cons (Eng.all_cons part364 (Eng.all_cons part365 (Eng.all_cons part366 (Eng.all_cons part367 (Eng.all_cons part368 (Eng.all_cons part369 (Eng.all_cons part370 Eng.all_nil))))))) (Eng.all_cons (Eng.all_cons part371 (Eng.all_cons part372 (Eng.all_cons part373 (Eng.all_cons part374 (Eng.all_cons part375 (Eng.all_cons part376 (Eng.all_cons part377 Eng.all_nil))))))) (Eng.all_cons (Eng.all_cons part378 (Eng.all_cons part379 (Eng.all_cons part380 (Eng.all_cons part381 (Eng.all_cons part382 (Eng.all_cons part383 (Eng.all_cons part384 Eng.all_nil))))))) (Eng.all_cons (Eng.all_cons part385 (Eng.all_cons part386 (Eng.all_cons part387 (Eng.all_cons part388 (Eng.all_cons part389 (Eng.all_cons part390 (Eng.all_cons part391 Eng.all_nil))))))) Eng.all_nil)))))))) (Eng.all_cons (Eng.all_cons (Eng.all_cons part392 (Eng.all_cons part393 (Eng.all_cons part394 (Eng.all_cons part395 (Eng.all_cons part396 (Eng.all_cons part397 (Eng.all_cons part398 Eng.all_nil))))))) (Eng.all_cons (Eng.all_cons part399 (Eng.all_cons part400 (Eng.all_cons part401 (Eng.all_cons part402 (Eng.all_cons part403 (Eng.all_cons part404 (Eng.all_cons part405 Eng.all_nil))))))) (Eng.all_cons (Eng.all_cons part406 (Eng.all_cons part407 (Eng.all_cons part408 (Eng.all_cons part409 (Eng.all_cons part410 (Eng.all_cons part411 (Eng.all_cons part412 Eng.all_nil))))))) (Eng.all_cons (Eng.all_cons part413 (Eng.all_cons part414 (Eng.all_cons part415 (Eng.all_cons part416 (Eng.all_cons part417 (Eng.all_cons part418 (Eng.all_cons part419 Eng.all_nil))))))) (Eng.all_cons (Eng.all_cons part420 (Eng.all_cons part421 (Eng.all_cons part422 (Eng.all_cons part423 (Eng.all_cons part424 (Eng.all_cons part425 (Eng.all_cons part426 Eng.all_nil))))))) (Eng.all_cons (Eng.all_cons part427 (Eng.all_cons part428 (Eng.all_cons part429 (Eng.all_cons part430 (Eng.all_cons part431 (Eng.all_cons part432 (Eng.all_cons part433 Eng.all_nil))))))) (Eng.all_cons (Eng.all_cons part434 (Eng.all_cons part435 (Eng.all_cons part436 (Eng.all_cons part437 (Eng.all_cons part438 (Eng.all_cons part439 (Eng.all_cons part440 Eng.all_nil))))))) (Eng.all_cons (Eng.all_cons part441 (Eng.all_cons part442 (Eng.all_cons part443 (Eng.all_cons part444 (Eng.all_cons part445 (Eng.all_cons part446 (Eng.all_cons part447 Eng.all_nil))))))) Eng.all_nil)))))))) Eng.all_nil))))))))
theorem walk (a0 : Int) (a1 : Int) (a2 : Int) (w0 : (Lit.int .i64 a0).wf = true) (w1 : (Lit.int .i64 a1).wf = true) (w2 : (Lit.int .i64 a2).wf = true) (w : World) :
    Calls Try.prog 10 #[.int .i64 a0, .int .i64 a1, .int .i64 a2] w fun e w' => e = .returned (.bool true) ∧ Eng.Kept w w' := by
  obtain ⟨x, m0, v0⟩ := Eng.domI_ok (ρ := Eng.ren0 Try.prog) 6 w0
  obtain ⟨y, m1, v1⟩ := Eng.domI_ok (ρ := Eng.ren0 Try.prog) 6 w1
  obtain ⟨z, m2, v2⟩ := Eng.domI_ok (ρ := Eng.ren0 Try.prog) 5 w2
  exact Eng.runA_calls (us := [.int .i64 a0, .int .i64 a1, .int .i64 a2]) good few nat_ok (Eng.VL.cons v0 (Eng.VL.cons v1 (Eng.VL.cons v2 Eng.VL.nil))) (cases x m0 y m1 z m2) w

/-! ### The row's step -/
set_option maxRecDepth 100000 in
theorem lifted (os : Os) (started : os.Started) (H : Type) (enc : TypeId × Value → H) :
    ReturnsInHanded {} Try.checked os 10 .any (Rows.clkOpsSpec.pre6 enc Try.prog Try.f10 Rows.clkOpsRow.domain false) (Rows.clkOpsSpec.post enc Try.prog Try.f10 false true false false) := by
  refine returnsInHanded_of_change (C := Try.checked) own started (by kernel_rfl) Try.func10
    (ChangeSpec.witness6 (enc := enc) (C := Try.checked) false ⟨#[], #[.int .i64 0, .int .i64 0, .int .i64 0], []⟩ 8 (by kernel_rfl) (by kernel_rfl) (by kernel_rfl) (by kernel_rfl)) ?_
  intro W base args ds gs before hval0 hW hcnd _
  have hval : ∀ (j : Nat) t v, Try.f10.params[j]? = some t → args[j]? = some v → Value.okWide Try.prog W .any base t v := hval0
  have hW' := hW
  obtain ⟨p, q, hA0, hV, rfl, hfz, hnd⟩ := hW
  have hA : DataW.TrodAll enc Try.prog W 0 (fun _ => true) true Try.f10.params.toList args.toList ds p := hA0
  rw [Try.params10] at hA hval
  obtain ⟨v0, vs0, d0, ds0, p0, q0, hargs, rfl, rfl, h0, r0⟩ := trodAll_cons hA
  obtain ⟨v1, vs1, d1, ds1, p1, q1, rfl, rfl, rfl, h1, r1⟩ := trodAll_cons r0
  obtain ⟨v2, vs2, d2, ds2, p2, q2, rfl, rfl, rfl, h2, r2⟩ := trodAll_cons r1
  obtain ⟨rfl, rfl, rfl⟩ := trodAll_nil r2
  obtain rfl : args = #[v0, v1, v2] := by cases args; simp_all
  obtain ⟨rfl, rfl⟩ := trodVars_none hV
  obtain ⟨a0, rfl, rfl, rfl, w0⟩ := open_int Try.underlying3 (hval 0 3 v0 rfl rfl) h0
  obtain ⟨a1, rfl, rfl, rfl, w1⟩ := open_int Try.underlying3 (hval 1 3 v1 rfl rfl) h1
  obtain ⟨a2, rfl, rfl, rfl, w2⟩ := open_int Try.underlying3 (hval 2 3 v2 rfl rfl) h2
  clear hA0 hval0
  simp only [List.append_nil] at hW'
  refine (walk a0 a1 a2 w0 w1 w2 W).mono fun e W' ⟨he, hg⟩ => ?_
  subst he
  exact ⟨_, rfl, Eng.post_of_kept (pa := []) (pv := []) hW' (fun _ _ => (trodAll_cons_mk (shut_bool Try.underlying4 _) trodAll_mk0)) (fun sp _ => (trodAll_cons_mk (shut_int Try.underlying3 w0) (trodAll_cons_mk (shut_int Try.underlying3 w1) (trodAll_cons_mk (shut_int Try.underlying3 w2) trodAll_mk0)))) (fun _ _ => rfl) rfl hg⟩

theorem over : Rows.clkOpsRow.holds Try.pinned (OpenSpec.ofChange Rows.clkOpsSpec) :=
  OpenClaim.holds_of_wide 10 Try.f10 rfl rfl rfl rfl rfl rfl rfl ⟨rfl, rfl, rfl, rfl, rfl⟩ rfl rfl rfl rfl rfl (by kernel_rfl) Try.func10 (by kernel_rfl)
    (of_decide_eq_true (by kernel_rfl)) (by unfold Func.isWrapper; first | (rw [if_pos (by decide +kernel)]; kernel_rfl) | (rw [if_neg (by decide +kernel)]; exact ⟨rfl, rfl⟩))
    (fun os started H enc _ => lifted os started H enc)

/-- the statement -/
theorem proved : Rows.ClkOpsSaid :=
  over
#print axioms proved
end Go.Proofs.Ytpjmiopplfmcfaa.clkOps

/- The functional reading of the code (printed). -/
import Derived.Test.YtlkcanjbgaeceaaGreatM4
import Derived.Test.YtlkcanjbgaeceaaGreatProg
set_option linter.unusedSimpArgs false
set_option linter.unusedVariables false
namespace Go.Proofs.YtlkcanjbgaeceaaGreat
open Go
def H0 : Hint := .mk .plain []
abbrev Yt1 : Ty := .pair (.int .i64) (.pair (.slice (.agg (.pair (.int .i64) (.int .i64)))) (.slice (.int .i64)))
abbrev Yd1 := Int × ((List (Int × Int)) × (List Int))
abbrev Yd2 := Int × (Int × (Int × Int))
abbrev Yt12 : Ty := .pair (.int .i64) (.pair (.int .i64) (.pair (.int .i64) (.int .i64)))
abbrev Yd12 := Int × (Int × (Int × Int))
abbrev Yd13 := Int × (List Yd12)
abbrev Yt14 : Ty := .pair .bool (.pair .bool (.pair .bool .bool))
abbrev Yd14 := Bool × (Bool × (Bool × Bool))
abbrev Yt15 : Ty := .pair (.agg Yt14) (.pair (.slice (.slice (.int .u8))) .bool)
abbrev Yd15 := Yd14 × ((List (List Int)) × Bool)
abbrev Yt16 : Ty := .pair (.int .i64) Yt15
abbrev Yd16 := Int × Yd15
abbrev Yt17 : Ty := .pair (.int .i64) Yt16
abbrev Yd17 := Int × Yd16
abbrev Yt18 : Ty := .pair (.agg (.pair (.int .i64) (.int .i64))) Yt17
abbrev Yd18 := (Int × Int) × Yd17
abbrev Yt19 : Ty := .pair (.int .i64) Yt18
abbrev Yd19 := Int × Yd18
abbrev Yt20 : Ty := .pair (.int .i64) Yt12
abbrev Yd20 := Int × Yd12
abbrev Yd21 := (List Yd12) × Int
abbrev Yd64 := (List Int) × Yd20
abbrev Yd65 := Int × Yd64
abbrev Yd66 := Int × Yd65
abbrev Yd67 := Int × Yd66
abbrev Yd68 := Int × Yd67
abbrev Yd69 := Int × Yd68
abbrev Yd70 := Int × Yd69
abbrev Yd71 := Int × Yd70
abbrev Yd72 := (List Yd19) × Yd71
abbrev Yd73 := Int × Yd72
abbrev Yd74 := (List Yd1) × Yd73
abbrev Yd75 := Int × Yd74
abbrev Yd76 := Int × Yd75
abbrev Yd77 := Int × Yd76
abbrev Yd78 := Int × Yd77
abbrev Yd79 := Int × Yd78
abbrev Yd80 := Int × Yd79
abbrev Yd81 := Int × Yd80
abbrev Yd82 := Int × Yd81
abbrev Yd83 := (List Yd12) × Yd82
abbrev Yd84 := Int × Yd83
abbrev Yd85 := (List Yd20) × Yd84
abbrev Yd86 := Int × Yd85
abbrev Yd87 := Int × Yd86
abbrev Yd88 := Int × Yd87
abbrev Yd89 := Int × Yd88
abbrev Yd90 := Int × Yd89
abbrev Yd91 := Int × Yd90
abbrev Yt107 : Ty := .pair (.agg Yt12) (.pair (.slice (.slice (.int .u8))) (.int .i64))
abbrev Yd107 := Yd12 × ((List (List Int)) × Int)
abbrev Yt108 : Ty := .pair (.int .i64) Yt107
abbrev Yd108 := Int × Yd107
abbrev Yt109 : Ty := .pair (.int .i64) Yt108
abbrev Yd109 := Int × Yd108
abbrev Yt110 : Ty := .pair (.agg (.pair (.int .i64) (.int .i64))) Yt109
abbrev Yd110 := (Int × Int) × Yd109
abbrev Yt111 : Ty := .pair (.int .i64) Yt110
abbrev Yd111 := Int × Yd110
abbrev Yt130 : Ty := .pair (.int .i64) Yt20
abbrev Yd130 := Int × Yd20
abbrev Yt131 : Ty := .pair (.int .i64) Yt130
abbrev Yd131 := Int × Yd130
abbrev Yt454 : Ty := .pair (.int .i64) Yt131
abbrev Yd454 := Int × Yd131
abbrev Yt455 : Ty := .pair (.int .i64) Yt454
abbrev Yd455 := Int × Yd454
abbrev Yt456 : Ty := .pair (.int .i64) Yt455
abbrev Yd456 := Int × Yd455
abbrev Yt457 : Ty := .pair (.int .i64) Yt456
abbrev Yd457 := Int × Yd456
abbrev Yt458 : Ty := .pair (.int .i64) Yt457
abbrev Yd458 := Int × Yd457
abbrev Yt459 : Ty := .pair (.int .i64) Yt458
abbrev Yd459 := Int × Yd458
abbrev Yt460 : Ty := .pair (.int .i64) Yt459
abbrev Yd460 := Int × Yd459
abbrev Yt461 : Ty := .pair .bool Yt460
abbrev Yd461 := Bool × Yd460
abbrev Yt462 : Ty := .pair (.agg (.pair (.int .u64) (.int .u64))) (.agg (.pair (.int .u64) (.int .u64)))
abbrev Yt463 : Ty := .pair (.agg (.pair (.int .u64) (.int .u64))) (.pair (.int .u64) (.int .i64))
abbrev Yd463 := (Int × Int) × (Int × Int)
abbrev Yd464 := Int × (Int × (Int × Int))
abbrev Yd465 := Int × Yd464
abbrev Yt466 : Ty := .pair (.int .i64) (.pair (.int .i64) (.pair (.int .i64) .bool))
abbrev Yt467 : Ty := .pair (.slice (.agg Yt1)) (.slice (.agg Yt20))
abbrev Yd467 := (List Yd1) × (List Yd20)
abbrev Yt468 : Ty := .pair (.agg Yt467) (.agg Yt1)
abbrev Yt469 : Ty := .pair (.int .i64) (.agg Yt20)
abbrev Yt470 : Ty := .pair (.agg Yt467) Yt469
abbrev Yt471 : Ty := .pair (.agg Yt460) (.agg Yt20)
abbrev Yt472 : Ty := .pair (.agg Yt460) (.agg Yt467)
abbrev Yt473 : Ty := .pair (.agg Yt467) (.pair (.slice (.int .i64)) (.int .i64))
abbrev Yt474 : Ty := .pair (.int .i64) (.pair (.int .i64) (.pair (.int .i64) (.int .u64)))
abbrev Yd474 := Int × (Int × (Int × Int))
abbrev Yt475 : Ty := .pair (.int .i64) Yt474
abbrev Yd475 := Int × Yd474
abbrev Yt476 : Ty := .pair (.int .i64) Yt475
abbrev Yd476 := Int × Yd475
abbrev Yt477 : Ty := .pair (.int .i64) Yt476
abbrev Yd477 := Int × Yd476
abbrev Yt478 : Ty := .pair (.int .i64) Yt477
abbrev Yd478 := Int × Yd477
abbrev Yt479 : Ty := .pair (.slice (.agg Yt12)) Yt478
abbrev Yd479 := (List Yd12) × Yd478
abbrev Yt480 : Ty := .pair (.slice (.agg Yt19)) Yt479
abbrev Yd480 := (List Yd19) × Yd479
abbrev Yt481 : Ty := .pair (.int .i64) Yt480
abbrev Yd481 := Int × Yd480
abbrev Yt482 : Ty := .pair (.int .i64) Yt481
abbrev Yd482 := Int × Yd481
abbrev Yt483 : Ty := .pair (.int .i64) Yt482
abbrev Yd483 := Int × Yd482
abbrev Yt484 : Ty := .pair (.int .i64) Yt483
abbrev Yd484 := Int × Yd483
abbrev Yt485 : Ty := .pair (.int .i64) Yt484
abbrev Yd485 := Int × Yd484
abbrev Yt486 : Ty := .pair (.int .i64) Yt485
abbrev Yd486 := Int × Yd485
abbrev Yt487 : Ty := .pair (.slice (.int .i64)) Yt486
abbrev Yd487 := (List Int) × Yd486
abbrev Yt488 : Ty := .pair (.slice (.agg Yt20)) Yt487
abbrev Yd488 := (List Yd20) × Yd487
abbrev Yt489 : Ty := .pair (.slice (.agg Yt1)) Yt488
abbrev Yd489 := (List Yd1) × Yd488
abbrev Yt490 : Ty := .pair (.int .i64) Yt489
abbrev Yd490 := Int × Yd489
abbrev Yt491 : Ty := .pair (.int .i64) Yt490
abbrev Yd491 := Int × Yd490
abbrev Yt492 : Ty := .pair (.int .i64) Yt491
abbrev Yd492 := Int × Yd491
abbrev Yt493 : Ty := .pair (.int .i64) Yt492
abbrev Yd493 := Int × Yd492
abbrev Yt494 : Ty := .pair (.int .i64) Yt493
abbrev Yd494 := Int × Yd493
abbrev Yt495 : Ty := .pair (.int .i64) Yt494
abbrev Yd495 := Int × Yd494
abbrev Yt496 : Ty := .pair (.int .i64) Yt495
abbrev Yd496 := Int × Yd495
abbrev Yt497 : Ty := .pair (.int .i64) Yt496
abbrev Yd497 := Int × Yd496
abbrev Yt498 : Ty := .pair (.int .i64) Yt497
abbrev Yd498 := Int × Yd497
abbrev Yt499 : Ty := .pair (.int .i64) Yt498
abbrev Yd499 := Int × Yd498
abbrev Yt500 : Ty := .pair (.int .i64) Yt499
abbrev Yd500 := Int × Yd499
abbrev Yt501 : Ty := .pair (.int .i64) Yt500
abbrev Yd501 := Int × Yd500
abbrev Yt502 : Ty := .pair (.int .i64) Yt501
abbrev Yd502 := Int × Yd501
abbrev Yt503 : Ty := .pair (.int .i64) Yt502
abbrev Yd503 := Int × Yd502
abbrev Yt504 : Ty := .pair (.slice (.agg Yt12)) Yt455
abbrev Yt505 : Ty := .pair (.slice (.agg Yt19)) Yt504
abbrev Yt506 : Ty := .pair (.int .i64) Yt505
abbrev Yt507 : Ty := .pair (.int .i64) Yt506
abbrev Yt508 : Ty := .pair (.int .i64) Yt507
abbrev Yt509 : Ty := .pair (.int .i64) Yt508
abbrev Yt510 : Ty := .pair (.int .i64) Yt509
abbrev Yt511 : Ty := .pair (.int .i64) Yt510
abbrev Yt512 : Ty := .pair (.slice (.int .i64)) Yt511
abbrev Yt513 : Ty := .pair (.slice (.agg Yt20)) Yt512
abbrev Yt514 : Ty := .pair (.slice (.agg Yt1)) Yt513
abbrev Yt515 : Ty := .pair (.int .i64) Yt514
abbrev Yt516 : Ty := .pair (.int .i64) Yt515
abbrev Yt517 : Ty := .pair (.int .i64) Yt516
abbrev Yt518 : Ty := .pair (.int .i64) Yt517
abbrev Yt519 : Ty := .pair (.int .i64) Yt518
abbrev Yt520 : Ty := .pair (.int .i64) Yt519
abbrev Yt521 : Ty := .pair (.int .i64) Yt520
abbrev Yt522 : Ty := .pair (.int .i64) Yt521
abbrev Yt523 : Ty := .pair (.int .i64) Yt522
abbrev Yt524 : Ty := .pair (.int .i64) Yt523
abbrev Yt525 : Ty := .pair (.int .i64) Yt524
abbrev Yt526 : Ty := .pair (.int .i64) Yt525
abbrev Yt527 : Ty := .pair (.int .i64) Yt526
abbrev Yt528 : Ty := .pair (.int .i64) Yt527
abbrev Yt529 : Ty := .pair (.int .i64) Yt503
abbrev Yd529 := Int × Yd503
abbrev Yt530 : Ty := .pair (.agg (.pair (.int .i64) (.int .i64))) (.pair (.int .i64) (.int .i64))
abbrev Yt531 : Ty := .pair (.agg (.pair (.int .i64) (.int .i64))) (.agg (.pair (.int .i64) (.int .i64)))
abbrev Yt532 : Ty := .pair (.int .i64) (.pair (.agg (.pair (.int .i64) (.int .i64))) (.int .i64))
abbrev Yt533 : Ty := .pair (.agg Yt460) (.int .i64)
abbrev Yt534 : Ty := .pair (.int .i64) (.pair .bool (.pair (.int .i64) .bool))
abbrev Yt535 : Ty := .pair (.int .i64) (.agg Yt19)
abbrev Yt536 : Ty := .pair (.int .i64) Yt535
abbrev Yt537 : Ty := .pair (.int .i64) Yt536
abbrev Yt538 : Ty := .pair (.int .i64) Yt537
abbrev Yt539 : Ty := .pair (.int .i64) Yt538
abbrev Yt540 : Ty := .pair (.int .i64) Yt539
abbrev Yt541 : Ty := .pair (.int .i64) Yt540
abbrev Yt542 : Ty := .pair (.slice (.agg Yt12)) Yt541
abbrev Yt543 : Ty := .pair (.slice (.agg Yt19)) Yt542
abbrev Yt544 : Ty := .pair (.int .i64) Yt543
abbrev Yt545 : Ty := .pair (.int .i64) Yt544
abbrev Yt546 : Ty := .pair (.int .i64) Yt545
abbrev Yt547 : Ty := .pair (.int .i64) Yt546
abbrev Yt548 : Ty := .pair (.int .i64) Yt547
abbrev Yt549 : Ty := .pair (.int .i64) Yt548
abbrev Yt550 : Ty := .pair (.slice (.int .i64)) Yt549
abbrev Yt551 : Ty := .pair (.slice (.agg Yt20)) Yt550
abbrev Yt552 : Ty := .pair (.slice (.agg Yt1)) Yt551
abbrev Yt553 : Ty := .pair (.int .i64) Yt552
abbrev Yt554 : Ty := .pair (.int .i64) Yt553
abbrev Yt555 : Ty := .pair (.int .i64) Yt554
abbrev Yt556 : Ty := .pair (.int .i64) Yt555
abbrev Yt557 : Ty := .pair (.int .i64) Yt556
abbrev Yt558 : Ty := .pair (.int .i64) Yt557
abbrev Yt559 : Ty := .pair (.int .i64) Yt558
abbrev Yt560 : Ty := .pair (.int .i64) Yt559
abbrev Yt561 : Ty := .pair (.int .i64) Yt560
abbrev Yt562 : Ty := .pair (.int .i64) Yt561
abbrev Yt563 : Ty := .pair (.int .i64) Yt562
abbrev Yt564 : Ty := .pair (.int .i64) Yt563
abbrev Yt565 : Ty := .pair (.int .i64) Yt564
abbrev Yt566 : Ty := .pair (.int .i64) Yt565
abbrev Yt567 : Ty := .pair (.agg Yt19) Yt503
abbrev Yd567 := Yd19 × Yd503
abbrev Yd568 := (List Yd12) × (Int × Int)
abbrev Yd569 := Int × Yd568
abbrev Yd570 := Int × Yd21
abbrev Yt571 : Ty := .pair (.int .i64) Yt529
abbrev Yt572 : Ty := .pair (.slice (.agg Yt19)) (.slice (.agg Yt12))
abbrev Yd572 := (List Yd19) × (List Yd12)
abbrev Yt573 : Ty := .pair (.agg (.pair (.int .i64) (.int .i64))) Yt572
abbrev Yd573 := (Int × Int) × Yd572
abbrev Yt574 : Ty := .pair (.agg (.pair (.int .i64) (.int .i64))) Yt573
abbrev Yd574 := (Int × Int) × Yd573
abbrev Yt575 : Ty := .pair (.int .i64) Yt574
abbrev Yd575 := Int × Yd574
abbrev Yt576 : Ty := .pair (.int .i64) Yt575
abbrev Yd576 := Int × Yd575
abbrev Yt577 : Ty := .pair (.slice (.int .i64)) Yt576
abbrev Yd577 := (List Int) × Yd576
abbrev Yt578 : Ty := .pair (.agg Yt577) .bool
abbrev Yd578 := Yd577 × Bool
abbrev Yd579 := Int × Yd71
abbrev Yd580 := (List Yd19) × Yd579
abbrev Yd581 := Int × Yd580
abbrev Yd582 := (List Yd1) × Yd581
abbrev Yd583 := Int × Yd582
abbrev Yd584 := Int × Yd583
abbrev Yd585 := Int × Yd584
abbrev Yd586 := Int × Yd585
abbrev Yd587 := Int × Yd586
abbrev Yd588 := Int × Yd587
abbrev Yd589 := Int × Yd588
abbrev Yd590 := Int × Yd589
abbrev Yd591 := (List Yd12) × Yd590
abbrev Yd592 := Int × Yd591
abbrev Yd593 := (List Yd20) × Yd592
abbrev Yd594 := Int × Yd593
abbrev Yd595 := Int × Yd594
abbrev Yd596 := Int × Yd595
abbrev Yd597 := Int × Yd596
abbrev Yd598 := Int × Yd597
abbrev Yd599 := Int × Yd598
abbrev Yt600 : Ty := .pair (.agg Yt467) (.pair (.int .u64) (.int .i64))
abbrev Yt601 : Ty := .pair (.agg Yt460) Yt600
abbrev Yd602 := Int × (List Yd1)
abbrev Yd603 := (List Yd20) × Int
abbrev Yt604 : Ty := .pair (.agg Yt1) (.int .i64)
abbrev Yt605 : Ty := .pair (.slice (.agg Yt111)) (.slice (.agg Yt12))
abbrev Yd605 := (List Yd111) × (List Yd12)
abbrev Yt606 : Ty := .pair (.agg (.pair (.int .i64) (.int .i64))) Yt605
abbrev Yd606 := (Int × Int) × Yd605
abbrev Yt607 : Ty := .pair (.agg (.pair (.int .i64) (.int .i64))) Yt606
abbrev Yd607 := (Int × Int) × Yd606
abbrev Yt608 : Ty := .pair (.int .i64) Yt607
abbrev Yd608 := Int × Yd607
abbrev Yt609 : Ty := .pair (.int .i64) Yt608
abbrev Yd609 := Int × Yd608
abbrev Yt610 : Ty := .pair (.slice (.int .i64)) Yt609
abbrev Yd610 := (List Int) × Yd609
abbrev Yd611 := (List Yd111) × Int
abbrev Yt612 : Ty := .pair (.agg Yt467) (.pair (.int .i64) (.int .i64))
abbrev Yt613 : Ty := .pair (.agg Yt467) (.slice (.int .i64))
abbrev Yt614 : Ty := .pair (.agg Yt467) (.agg Yt610)
abbrev Yt615 : Ty := .pair (.agg Yt460) (.agg Yt610)
abbrev Yt616 : Ty := .pair (.agg Yt610) (.pair (.int .i64) (.int .i64))
abbrev Yt617 : Ty := .pair (.agg Yt460) Yt616
abbrev Yt618 : Ty := .pair (.agg Yt610) (.pair (.int .i64) (.pair (.int .i64) (.int .i64)))
abbrev Yt619 : Ty := .pair (.agg Yt610) (.int .i64)
abbrev Yt620 : Ty := .pair (.agg Yt460) Yt619
abbrev Yt621 : Ty := .pair (.agg Yt467) (.int .i64)
abbrev Yt622 : Ty := .pair (.agg Yt610) (.agg Yt12)
abbrev Yt623 : Ty := .pair (.agg Yt467) Yt622
abbrev Yt624 : Ty := .pair (.agg Yt460) Yt623
abbrev Yt625 : Ty := .pair (.agg Yt460) Yt614
abbrev Yt626 : Ty := .pair (.agg (.pair (.int .i64) (.pair (.int .i64) (.int .i64)))) (.int .i64)
abbrev Yd626 := (Int × (Int × Int)) × Int
def tys : List (Nat × TD) := [
  (2, ⟨some (.int .i64), [.dat (.int .i64) (0 : Int)], .scalar⟩),
  (3, ⟨some (.int .i64), [.dat (.int .i64) (0 : Int)], .scalar⟩),
  (4, ⟨some .bool, [.dat .bool false], .scalar⟩),
  (5, ⟨some (.int .u8), [.dat (.int .u8) (0 : Int)], .scalar⟩),
  (23, ⟨some (.agg Yt460), List.replicate 14 (.dat (.int .i64) (0 : Int)), .struct [(2, 0, 1), (2, 1, 1), (2, 2, 1), (2, 3, 1), (2, 4, 1), (2, 5, 1), (2, 6, 1), (2, 7, 1), (2, 8, 1), (3, 9, 1), (2, 10, 1), (2, 11, 1), (3, 12, 1), (2, 13, 1)]⟩),
  (24, ⟨some (.slice (.agg Yt1)), [.nil], .slice 33 3 56⟩),
  (25, ⟨some (.slice (.agg Yt20)), [.nil], .slice 76 5 40⟩),
  (27, ⟨some (.agg Yt467), [.nil, .nil], .struct [(24, 0, 1), (25, 1, 1)]⟩),
  (28, ⟨some (.int .u64), [.dat (.int .u64) (0 : Int)], .scalar⟩),
  (29, ⟨none, [.undef], .scalar⟩),
  (30, ⟨some (.slice (.agg (.pair (.int .i64) (.int .i64)))), [.nil], .slice 57 2 16⟩),
  (31, ⟨some (.slice (.int .i64)), [.nil], .slice 3 1 8⟩),
  (33, ⟨some (.agg Yt1), [.dat (.int .i64) (0 : Int), .nil, .nil], .struct [(2, 0, 1), (30, 1, 1), (31, 2, 1)]⟩),
  (34, ⟨some (.agg (.pair (.int .i64) (.int .i64))), [.dat (.int .i64) (0 : Int), .dat (.int .i64) (0 : Int)], .array 2 2 1⟩),
  (35, ⟨some (.slice (.agg Yt19)), [.nil], .slice 87 11 80⟩),
  (36, ⟨some (.slice (.agg Yt12)), [.nil], .slice 92 4 32⟩),
  (38, ⟨some (.agg Yt577), [.nil, .dat (.int .i64) (0 : Int), .dat (.int .i64) (0 : Int), .dat (.int .i64) (0 : Int), .dat (.int .i64) (0 : Int), .dat (.int .i64) (0 : Int), .dat (.int .i64) (0 : Int), .nil, .nil], .struct [(31, 0, 1), (2, 1, 1), (2, 2, 1), (34, 3, 2), (34, 5, 2), (35, 7, 1), (36, 8, 1)]⟩),
  (43, ⟨some (.agg Yt460), List.replicate 14 (.dat (.int .i64) (0 : Int)), .struct [(2, 0, 1), (2, 1, 1), (2, 2, 1), (2, 3, 1), (2, 4, 1), (2, 5, 1), (2, 6, 1), (2, 7, 1), (2, 8, 1), (3, 9, 1), (2, 10, 1), (2, 11, 1), (3, 12, 1), (2, 13, 1)]⟩),
  (44, ⟨some (.slice (.agg Yt1)), [.nil], .slice 74 3 56⟩),
  (45, ⟨some (.slice (.agg Yt20)), [.nil], .slice 71 5 40⟩),
  (47, ⟨some (.agg Yt467), [.nil, .nil], .struct [(44, 0, 1), (45, 1, 1)]⟩),
  (50, ⟨some (.slice (.agg Yt111)), [.nil], .slice 90 11 104⟩),
  (51, ⟨some (.slice (.agg Yt12)), [.nil], .slice 93 4 32⟩),
  (53, ⟨some (.agg Yt610), [.nil, .dat (.int .i64) (0 : Int), .dat (.int .i64) (0 : Int), .dat (.int .i64) (0 : Int), .dat (.int .i64) (0 : Int), .dat (.int .i64) (0 : Int), .dat (.int .i64) (0 : Int), .nil, .nil], .struct [(31, 0, 1), (2, 1, 1), (2, 2, 1), (34, 3, 2), (34, 5, 2), (50, 7, 1), (51, 8, 1)]⟩),
  (57, ⟨some (.agg (.pair (.int .i64) (.int .i64))), [.dat (.int .i64) (0 : Int), .dat (.int .i64) (0 : Int)], .struct [(2, 0, 1), (2, 1, 1)]⟩),
  (61, ⟨some (.int .u64), [.dat (.int .u64) (0 : Int)], .scalar⟩),
  (63, ⟨none, [.undef], .scalar⟩),
  (65, ⟨none, [.undef, .dat (.int .i64) (0 : Int), .dat (.int .i64) (0 : Int), .dat (.int .i64) (0 : Int), .dat (.int .i64) (0 : Int), .dat (.int .i64) (0 : Int), .dat (.int .i64) (0 : Int), .dat (.int .i64) (0 : Int), .dat (.int .i64) (0 : Int), .dat (.int .i64) (0 : Int), .dat (.int .i64) (0 : Int), .dat (.int .i64) (0 : Int), .dat (.int .i64) (0 : Int), .dat (.int .i64) (0 : Int), .dat (.int .i64) (0 : Int), .nil, .nil, .nil, .dat (.int .i64) (0 : Int), .dat (.int .i64) (0 : Int), .dat (.int .i64) (0 : Int), .dat (.int .i64) (0 : Int), .dat (.int .i64) (0 : Int), .dat (.int .i64) (0 : Int), .nil, .nil, .dat (.int .i64) (0 : Int), .dat (.int .i64) (0 : Int), .dat (.int .i64) (0 : Int), .dat (.int .i64) (0 : Int), .dat (.int .i64) (0 : Int), .dat (.int .i64) (0 : Int), .dat (.int .i64) (0 : Int)], .struct [(63, 0, 1), (23, 1, 14), (27, 15, 2), (38, 17, 9), (2, 26, 1), (2, 27, 1), (2, 28, 1), (2, 29, 1), (34, 30, 2), (3, 32, 1)]⟩),
  (71, ⟨some (.agg Yt20), [.dat (.int .i64) (0 : Int), .dat (.int .i64) (0 : Int), .dat (.int .i64) (0 : Int), .dat (.int .i64) (0 : Int), .dat (.int .i64) (0 : Int)], .struct [(3, 0, 1), (3, 1, 1), (2, 2, 1), (2, 3, 1), (2, 4, 1)]⟩),
  (72, ⟨some (.slice (.agg (.pair (.int .i64) (.int .i64)))), [.nil], .slice 75 2 16⟩),
  (74, ⟨some (.agg Yt1), [.dat (.int .i64) (0 : Int), .nil, .nil], .struct [(2, 0, 1), (72, 1, 1), (31, 2, 1)]⟩),
  (75, ⟨some (.agg (.pair (.int .i64) (.int .i64))), [.dat (.int .i64) (0 : Int), .dat (.int .i64) (0 : Int)], .struct [(2, 0, 1), (2, 1, 1)]⟩),
  (76, ⟨some (.agg Yt20), [.dat (.int .i64) (0 : Int), .dat (.int .i64) (0 : Int), .dat (.int .i64) (0 : Int), .dat (.int .i64) (0 : Int), .dat (.int .i64) (0 : Int)], .struct [(3, 0, 1), (3, 1, 1), (2, 2, 1), (2, 3, 1), (2, 4, 1)]⟩),
  (84, ⟨some (.agg Yt14), [.dat .bool false, .dat .bool false, .dat .bool false, .dat .bool false], .array 4 4 1⟩),
  (85, ⟨some (.slice (.slice (.int .u8))), [.nil], .slice 120 1 24⟩),
  (87, ⟨some (.agg Yt19), [.dat (.int .i64) (0 : Int), .dat (.int .i64) (0 : Int), .dat (.int .i64) (0 : Int), .dat (.int .i64) (0 : Int), .dat (.int .i64) (0 : Int), .dat .bool false, .dat .bool false, .dat .bool false, .dat .bool false, .nil, .dat .bool false], .struct [(2, 0, 1), (34, 1, 2), (2, 3, 1), (2, 4, 1), (84, 5, 4), (85, 9, 1), (4, 10, 1)]⟩),
  (88, ⟨some (.agg Yt12), [.dat (.int .i64) (0 : Int), .dat (.int .i64) (0 : Int), .dat (.int .i64) (0 : Int), .dat (.int .i64) (0 : Int)], .array 4 3 1⟩),
  (90, ⟨some (.agg Yt111), [.dat (.int .i64) (0 : Int), .dat (.int .i64) (0 : Int), .dat (.int .i64) (0 : Int), .dat (.int .i64) (0 : Int), .dat (.int .i64) (0 : Int), .dat (.int .i64) (0 : Int), .dat (.int .i64) (0 : Int), .dat (.int .i64) (0 : Int), .dat (.int .i64) (0 : Int), .nil, .dat (.int .i64) (0 : Int)], .struct [(2, 0, 1), (34, 1, 2), (2, 3, 1), (2, 4, 1), (88, 5, 4), (85, 9, 1), (3, 10, 1)]⟩),
  (92, ⟨some (.agg Yt12), [.dat (.int .i64) (0 : Int), .dat (.int .i64) (0 : Int), .dat (.int .i64) (0 : Int), .dat (.int .i64) (0 : Int)], .struct [(3, 0, 1), (3, 1, 1), (3, 2, 1), (2, 3, 1)]⟩),
  (93, ⟨some (.agg Yt12), [.dat (.int .i64) (0 : Int), .dat (.int .i64) (0 : Int), .dat (.int .i64) (0 : Int), .dat (.int .i64) (0 : Int)], .struct [(3, 0, 1), (3, 1, 1), (3, 2, 1), (2, 3, 1)]⟩),
  (97, ⟨some (.int .u64), [.dat (.int .u64) (0 : Int)], .scalar⟩),
  (110, ⟨some (.agg (.pair (.int .i64) (.int .i64))), [.dat (.int .i64) (0 : Int), .dat (.int .i64) (0 : Int)], .struct [(2, 0, 1), (2, 1, 1)]⟩),
  (112, ⟨some (.slice (.agg (.pair (.int .i64) (.int .i64)))), [.nil], .slice 110 2 16⟩),
  (117, ⟨some (.agg (.pair (.int .i64) (.pair (.int .i64) (.int .i64)))), [.dat (.int .i64) (0 : Int), .dat (.int .i64) (0 : Int), .dat (.int .i64) (0 : Int)], .struct [(3, 0, 1), (3, 1, 1), (2, 2, 1)]⟩),
  (120, ⟨some (.slice (.int .u8)), [.nil], .slice 5 1 1⟩),
  (121, ⟨none, [.nil], .slice 29 1 8⟩),
  (142, ⟨some (.agg (.pair (.int .i64) (.int .i64))), [.dat (.int .i64) (0 : Int), .dat (.int .i64) (0 : Int)], .struct [(2, 0, 1), (2, 1, 1)]⟩),
  (147, ⟨some (.agg Yt130), [.dat (.int .i64) (0 : Int), .dat (.int .i64) (0 : Int), .dat (.int .i64) (0 : Int), .dat (.int .i64) (0 : Int), .dat (.int .i64) (0 : Int), .dat (.int .i64) (0 : Int)], .array 6 3 1⟩),
  (151, ⟨some (.slice (.agg (.pair (.int .i64) (.int .i64)))), [.nil], .slice 142 2 16⟩),
  (157, ⟨some (.int .u16), [.dat (.int .u16) (0 : Int)], .scalar⟩),
  (164, ⟨some (.int .i16), [.dat (.int .i16) (0 : Int)], .scalar⟩),
  (168, ⟨some (.agg (.pair (.int .u64) (.int .u64))), [.dat (.int .u64) (0 : Int), .dat (.int .u64) (0 : Int)], .struct [(28, 0, 1), (28, 1, 1)]⟩)]
theorem tys_ok : tysB Tryz.prog tys = true := by kernel_rfl
end Go.Proofs.YtlkcanjbgaeceaaGreat
